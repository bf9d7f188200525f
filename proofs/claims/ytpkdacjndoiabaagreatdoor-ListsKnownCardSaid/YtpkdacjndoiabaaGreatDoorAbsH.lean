/- The abstract effect of an operation is what the model's own operation does: the operations that make no memory; all of them together.
   Conditions: none; generic over the program. -/
import Derived.Test.YtpkdacjndoiabaaGreatDoorAbsG
import Derived.Laws.BytesArg
import Derived.Laws.BytesString
import Derived.Lib.ConvBytes
import Derived.Laws.MakeOwn
import Derived.Deep.AppendSrc
import Derived.MapKept
set_option linter.unusedSimpArgs false
namespace Go.Abs
variable {P:Program}
section ops
variable {α:Type} {ι:Inj} {s:St} {a:Act} {w:World} {f:Nat} {o:Oper} {c:Eff->Option α} {z:α}
theorem vS {t:TypeId} {fs:Array Field} {fd:Field} {i:Nat} {ti:TypeInfo} (hd:P.underlying t=some (.struct fs)) (hf:fs[i]?=some fd) (hi:P.info? fd.type=some ti)
  (hp:0<P.cellsOf fd.type) (r off:Nat) (w:World):(Instr.fieldAt t (.pointer (some ⟨r,off,none⟩)) i).run P w=.ok (.pointer (some ⟨r,off+fd.offset,none⟩)) w:=by
 simp only [Instr.fieldAt,aw,aW hd,ay,hf,Instr.sureAddr,aA,fieldPlace,fV hi,show ¬(P.cellsOf fd.type=0) by omega,aE,mK]
theorem za {t:TypeId} {x:Operand} {i:Nat} (ho:o.op=.fieldAddr t x i) (hT:TR ι s.T a.tmps) (h:effK P (opd s.T) s.H f (.fieldAddr t x i) c=some z):
  ∃e,c e=some z/\gz P ι f o a w e:=by
 simp only [effK] at h
 split at h
 ·rename_i b off hx
  split at h
  ·rename_i fs hd
   split at h
   ·rename_i fd hf
    split at h
    ·rename_i hp
     obtain ⟨ti,hti⟩:=bU hp
     have hv:=bn hT hx
     simp only [VR] at hv
     obtain ⟨r,h5,h6⟩:=hv
     have hrun:=vS hd (by simpa using hf) hti (aI hp) r.r off w
     exact ⟨_,h,.val (x:=.pointer (some ⟨r.r,off+fd.offset,none⟩)) (by simp only [execOp,ho,h6,aw,hrun,ay,aA]) (by simp only [VR,pE];exact ⟨r,h5,rfl⟩)⟩
    ·cases h
   ·cases h
  ·cases h
 ·rename_i zz b j off hx
  split at h
  ·rename_i fs hd
   split at h
   ·rename_i fd hf
    split at h
    ·rename_i hp
     obtain ⟨ti,hti⟩:=bU hp
     have hv:=bn hT hx
     simp only [VR] at hv
     obtain ⟨r,h5,h6⟩:=hv
     have hrun:=vS hd (by simpa using hf) hti (aI hp) r.r (r.o+(j*zz+off)) w
     exact ⟨_,h,.val (x:=.pointer (some ⟨r.r,r.o+(j*zz+off)+fd.offset,none⟩)) (by simp only [execOp,ho,h6,aw,hrun,ay,aA]) (by simp only [VR,pE];exact ⟨r,h5,by rw [gO,gO]⟩)⟩
    ·cases h
   ·cases h
  ·cases h
 ·cases h
theorem Ic {t:TypeId} {x:Operand} {i:Nat} (ho:o.op=.field t x i) (hT:TR ι s.T a.tmps) (h:effK P (opd s.T) s.H f (.field t x i) c=some z):
  ∃e,c e=some z/\gz P ι f o a w e:=by
 simp only [effK] at h
 split at h
 ·rename_i l hx
  have hv:=bn hT hx
  simp only [VR] at hv
  obtain ⟨cs,h6,hcs⟩:=hv
  split at h
  ·rename_i fs hd
   split at h
   ·rename_i fd hf
    have hf':fs[i]?=some fd:=by simpa using hf
    split at h
    ·rename_i hag
     split at h
     ·have hu:∃d,P.underlying fd.type=some d:=by
       unfold bQ at hag
       split at hag
       ·exact ⟨_,by assumption⟩
       ·exact ⟨_,by assumption⟩
       ·cases hag
      obtain ⟨d',hd'⟩:=hu
      obtain ⟨ti,hti⟩:=mM hd'
      refine ⟨_,h,.val (x:=.agg (cs.extract fd.offset (fd.offset+P.cellsOf fd.type))) ?_ (pB (hcs.extract _ _))⟩
      simp only [execOp,ho,h6,Instr.field,aw,aW hd,ay,hf',asAgg,aA,part,jT hd',hag,aQ,fV hti]
     ·cases h
    ·rename_i hag
     split at h
     ·rename_i d' hd'
      obtain ⟨v,hl,h⟩:=av h
      obtain ⟨y,hy,hvy⟩:=hcs.get hl
      have hy':cs[fd.offset]?=some y:=by simpa using hy
      refine ⟨_,h,.val (x:=y) ?_ hvy⟩
      simp only [execOp,ho,h6,Instr.field,aw,aW hd,ay,hf',asAgg,aA,part,jT hd',hag,bP,aE,hy']
     ·cases h
   ·cases h
  ·cases h
 ·cases h
theorem oq {t e:TypeId} {m:Nat} {ti:TypeInfo} (hd:P.underlying t=some (.array m e)) (hi:P.info? e=some ti) (k:IntKind) {n:Int} (h0:0<=n) (h1:n<m) (r off:Nat) (w:World):
  (Instr.indexAt t (.pointer (some ⟨r,off,none⟩)) (.int k n)).run P w=.ok (.pointer (some ⟨r,off+n.toNat*P.cellsOf e,none⟩)) w:=by
 simp only [Instr.indexAt,asIntOf,aw,aA,ay,aW hd,Instr.sureAddr,h0,h1,and_self,aQ,fV hi,mK]
theorem lk {t e:TypeId} {m cp:Nat} {ti:TypeInfo} (hd:P.underlying t=some (.slice e)) (hi:P.info? e=some ti) (k:IntKind) {n:Int} (h0:0<=n) (h1:n<m) (r off:Nat) (w:World):
  (Instr.indexAt t (.slice (some ⟨r,off,none⟩) m cp) (.int k n)).run P w=.ok (.pointer (some ⟨r,off+n.toNat*P.cellsOf e,none⟩)) w:=by
 simp only [Instr.indexAt,asIntOf,aw,aA,ay,aW hd,h0,h1,and_self,aQ,fV hi,mK]
theorem AA {t:TypeId} {x i:Operand} (ho:o.op=.indexAddr t x i) (hT:TR ι s.T a.tmps) (hW:WR ι s.H s.nb w) (h:effK P (opd s.T) s.H f (.indexAddr t x i) c=some z):
  ∃e,c e=some z/\gz P ι f o a w e:=by
 simp only [effK] at h
 split at h
 case h_2=>cases h
 rename_i k n hi
 have hiv:=bn hT hi
 simp only [VR] at hiv
 split at h
 ·rename_i m e hd
  split at h
  ·rename_i b off hx
   have hv:=bn hT hx
   simp only [VR] at hv
   obtain ⟨r,h5,h6⟩:=hv
   split at h
   ·rename_i hp
    obtain ⟨ti,hti⟩:=bU hp
    obtain ⟨j,hj,h⟩:=av h
    obtain ⟨g0,g1,rfl⟩:=nO hj
    have hrun:=oq hd hti k g0 g1 r.r off w
    exact ⟨_,h,.val (x:=.pointer (some ⟨r.r,off+n.toNat*P.cellsOf e,none⟩)) (by simp only [execOp,ho,h6,hiv,aw,hrun,ay,aA]) (by simp only [VR,pE,xy];exact ⟨r,h5,rfl⟩)⟩
   ·cases h
  ·rename_i zz b jj off hx
   have hv:=bn hT hx
   simp only [VR] at hv
   obtain ⟨r,h5,h6⟩:=hv
   split at h
   ·rename_i hp
    obtain ⟨ti,hti⟩:=bU hp
    obtain ⟨j,hj,h⟩:=av h
    obtain ⟨g0,g1,rfl⟩:=nO hj
    have hrun:=oq hd hti k g0 g1 r.r (r.o+(jj*zz+off)) w
    exact ⟨_,h,.val (x:=.pointer (some ⟨r.r,r.o+(jj*zz+off)+n.toNat*P.cellsOf e,none⟩)) (by simp only [execOp,ho,h6,hiv,aw,hrun,ay,aA]) (by simp only [VR,pE,xy];exact ⟨r,h5,by rw [gO,gO]⟩)⟩
   ·cases h
  ·cases h
 ·rename_i e hd
  split at h
  ·rename_i b off m cp hx
   have hv:=bn hT hx
   simp only [VR] at hv
   obtain ⟨r,cap,h5,_,_,h6⟩:=hv
   split at h
   ·rename_i hp
    obtain ⟨ti,hti⟩:=bU hp
    obtain ⟨j,hj,h⟩:=av h
    obtain ⟨g0,g1,rfl⟩:=nO hj
    have hrun:=lk (cp:=cap) hd hti k g0 g1 r.r off w
    exact ⟨_,h,.val (x:=.pointer (some ⟨r.r,off+n.toNat*P.cellsOf e,none⟩)) (by simp only [execOp,ho,h6,hiv,aw,hrun,ay,aA]) (by simp only [VR,pE,xy];exact ⟨r,h5,rfl⟩)⟩
   ·cases h
  ·rename_i b hx
   have hv:=bn hT hx
   simp only [VR] at hv
   split at h
   case h_2=>cases h
   rename_i tr l hb
   split at h
   case h_2=>cases h
   rename_i hp
   simp only [az,iV] at hp
   obtain ⟨hp1,hp⟩:=hp
   obtain ⟨ti,hti⟩:=bU hp
   obtain ⟨j,hj,h⟩:=av h
   obtain ⟨g0,g1,rfl⟩:=nO hj
   rcases jh hW hb with ⟨q,cs,e',fr,q1,q2,q3,q4,q5,q6,q7⟩ | ⟨q1,rfl⟩
   ·rcases hv with ⟨q',h5,h6⟩ | ⟨h5,_⟩
    ·rw [h5] at q1;cases q1
     have g1':n<(q.n:Int):=by rw [<-q3];exact g1
     have hrun:=lk (cp:=q.k) hd hti k g0 g1' q.r q.o w
     exact ⟨_,h,.val (x:=.pointer (some ⟨q.r,q.o+n.toNat*P.cellsOf e,none⟩)) (by simp only [execOp,ho,h6,hiv,aw,hrun,ay,aA]) (by simp only [VR];exact ⟨q,h5,by rw [cD]⟩)⟩
    ·rw [h5] at q1;cases q1
   ·simp at g1;omega
  ·rename_i zz b ss m _ hx
   have hv:=bn hT hx
   simp only [VR] at hv
   split at h
   case h_2=>cases h
   rename_i hp
   simp only [az,iV] at hp
   obtain ⟨rfl,hp⟩:=hp
   obtain ⟨ti,hti⟩:=bU hp
   obtain ⟨j,hj,h⟩:=av h
   obtain ⟨g0,g1,rfl⟩:=nO hj
   rcases hv with ⟨q,cp,off,h5,_,hoff,h6⟩ | ⟨_,⟨rfl,_⟩,_⟩
   ·have hrun:=lk (cp:=cp) hd hti k g0 g1 q.r off w
    have hoff:=hoff (by omega)
    exact ⟨_,h,.val (x:=.pointer (some ⟨q.r,off+n.toNat*P.cellsOf e,none⟩)) (by simp only [execOp,ho,h6,hiv,aw,hrun,ay,aA]) (by simp only [VR,pE];exact ⟨q,h5,by rw [hoff,gL,cD,gO]⟩)⟩
   ·omega
  ·cases h
 ·cases h
theorem iN {t e:TypeId} {m:Nat} {ti:TypeInfo} (hd:P.underlying t=some (.array m e)) (hi:P.info? e=some ti) (k:IntKind) {n:Int} (h0:0<=n) (h1:n<m) (cs:Array Value) (w:World):
  (Instr.index t (.agg cs) (.int k n)).run P w=(part e cs (n.toNat*P.cellsOf e)).run P w:=by
 simp only [Instr.index,asIntOf,aw,aA,ay,aW hd,h0,h1,and_self,aQ,fV hi]
theorem qt {t:TypeId} {d:TypeDesc} (hd:P.underlying t=some d) (hn:bQ P t=false) {cs:Array Value} {off:Nat} {x:Value} (hx:cs[off]?=some x) (w:World):
  (part t cs off).run P w=.ok x w:=by
 simp only [part,aw,jT hd,hn,ay,bP,aE,hx,aA]
theorem uG {t:TypeId} {d:TypeDesc} (hd:P.underlying t=some d) (hn:bQ P t=true) (cs:Array Value) (off:Nat) (w:World):
  (part t cs off).run P w=.ok (.agg (cs.extract off (off+P.cellsOf t))) w:=by
 obtain ⟨i,hi⟩:=mM hd
 simp only [part,aw,jT hd,hn,ay,aQ,fV hi,aA]
theorem uW {t:TypeId} (hd:P.underlying t=some .string) {l:aa} {n:Int} {b:UInt8} (h:sx l n=some b) (k:IntKind) (w:World):
  (Instr.index t (.string ⟨l.toArray⟩) (.int k n)).run P w=.ok (.int .u8 b.toNat) w:=by
 unfold sx at h
 split at h
 ·rename_i h0
  have hb:(ByteArray.mk l.toArray)[n.toNat]?=some b:=by
   have hlt:n.toNat<l.length:=by
    rcases aG n.toNat l.length with h' | h'
    ·exact h'
    ·rw [gU h'] at h;cases h
   have hs:n.toNat<(ByteArray.mk l.toArray).size:=hlt
   rw [getElem?_pos (ByteArray.mk l.toArray) n.toNat hs]
   rw [bp hlt] at h
   simp only [aq] at h ⊢
   exact h
  simp only [Instr.index,asIntOf,aw,aA,ay,aW hd,h0,aQ,hb]
 ·cases h
theorem Iu {t:TypeId} {x i:Operand} (ho:o.op=.index t x i) (hT:TR ι s.T a.tmps) (h:effK P (opd s.T) s.H f (.index t x i) c=some z):
  ∃e,c e=some z/\gz P ι f o a w e:=by
 simp only [effK] at h
 split at h
 case h_2=>cases h
 rename_i k n hi
 have hiv:=bn hT hi
 simp only [VR] at hiv
 split at h
 ·rename_i m e hd
  split at h
  ·cases h
  rename_i hp
  obtain ⟨ti,hti⟩:=bU hp
  split at h
  ·rename_i k' m' l hx
   have hv:=bn hT hx
   simp only [VR] at hv
   obtain ⟨hl,h6⟩:=hv
   split at h
   ·rename_i k2 he
    split at h
    ·rename_i h1
     have h1:=bE h1
     obtain ⟨j,hj,h⟩:=av h
     obtain ⟨g0,g1,rfl⟩:=nO hj
     obtain ⟨v,hv,h⟩:=av h
     refine ⟨_,h,.val (x:=.int k' v) ?_ (by simp [VR])⟩
     simp only [execOp,ho,h6,hiv,aw,iN hd hti k g0 g1]
     rw [qt he (by simp [bQ,he]) (x:=.int k' v) (by simp [h1,hv])]
     rfl
    ·cases h
   ·cases h
  ·rename_i l hx
   have hv:=bn hT hx
   simp only [VR] at hv
   obtain ⟨cs,h6,hcs⟩:=hv
   split at h
   ·rename_i fs he
    obtain ⟨j,hj,h⟩:=av h
    obtain ⟨g0,g1,rfl⟩:=nO hj
    refine ⟨_,h,.val (x:=.agg (cs.extract (n.toNat*P.cellsOf e) (n.toNat*P.cellsOf e+P.cellsOf e))) ?_ (pB (hcs.extract _ _))⟩
    simp only [execOp,ho,h6,hiv,aw,iN hd hti k g0 g1,uG he (by simp [bQ,he]),ay,aA]
   ·rename_i m2 e2 he
    obtain ⟨j,hj,h⟩:=av h
    obtain ⟨g0,g1,rfl⟩:=nO hj
    refine ⟨_,h,.val (x:=.agg (cs.extract (n.toNat*P.cellsOf e) (n.toNat*P.cellsOf e+P.cellsOf e))) ?_ (pB (hcs.extract _ _))⟩
    simp only [execOp,ho,h6,hiv,aw,iN hd hti k g0 g1,uG he (by simp [bQ,he]),ay,aA]
   ·rename_i he
    split at h
    ·rename_i h1
     have h1:=bE h1
     split at h
     ·rename_i ss hss
      obtain ⟨j,hj,h⟩:=av h
      obtain ⟨g0,g1,rfl⟩:=nO hj
      obtain ⟨v,hv,h⟩:=av h
      obtain ⟨y,hy,hvy⟩:=hcs.get (j:=n.toNat) (v:=.s v) (by rw [sM hss];simp [hv])
      refine ⟨_,h,.val (x:=y) ?_ hvy⟩
      simp only [execOp,ho,h6,hiv,aw,iN hd hti k g0 g1]
      rw [qt he (by simp [bQ,he]) (x:=y) (by simpa [h1] using hy)]
      rfl
     ·cases h
    ·cases h
   ·rename_i d' n1 n2 n3 he
    split at h
    ·rename_i h1
     have h1:=bE h1
     obtain ⟨j,hj,h⟩:=av h
     obtain ⟨g0,g1,rfl⟩:=nO hj
     obtain ⟨v,hv,h⟩:=av h
     obtain ⟨y,hy,hvy⟩:=hcs.get hv
     refine ⟨_,h,.val (x:=y) ?_ hvy⟩
     simp only [execOp,ho,h6,hiv,aw,iN hd hti k g0 g1]
     rw [qt he (by simp only [bQ,he];cases d'<;>simp_all) (x:=y) (by simpa [h1] using hy)]
     rfl
    ·cases h
   ·cases h
  ·cases h
 ·rename_i hd
  split at h
  ·rename_i l hx
   have hv:=bn hT hx
   simp only [VR] at hv
   obtain ⟨b,hb,h⟩:=av h
   refine ⟨_,h,.val (x:=.int .u8 b.toNat) ?_ (by simp [VR])⟩
   simp only [execOp,ho,hv,hiv,aw,uW hd hb,ay,aA]
  ·cases h
 ·cases h
theorem y8 {t:TypeId} (hd:P.underlying t=some .string) {l:aa} {lo hi:Option Value} {L H:Nat} {w:World}
  (hb:(Instr.sliceBounds false l.length l.length lo hi none).run P w=.ok (L,H,l.length) w):
  (Instr.sliceAt t (.string ⟨l.toArray⟩) lo hi none).run P w=.ok (.string ⟨((l.take H).drop L).toArray⟩) w:=by
 rw [run_sliceAt_string w t _ _ _ _ hd]
 have hs:(ByteArray.mk l.toArray).size=l.length:=rfl
 simp only [Instr.slice,aw,aW hd,ay,wE,bP,aE,hs,hb,aA]
 congr 2
 apply iO9
 rw [ByteArray.data_extract]
 apply lP
 simp [List.extract,wW]
theorem AM {t e:TypeId} {n:Nat} {ti:TypeInfo} (hd:P.underlying t=some (.array n e)) (hi:P.info? e=some ti) {lo hi':Option Value} {L H r off:Nat} {w:World}
  (hb:(Instr.sliceBounds false n n lo hi' none).run P w=.ok (L,H,n) w):
  (Instr.sliceAt t (.pointer (some ⟨r,off,none⟩)) lo hi' none).run P w=.ok (.slice (some ⟨r,if n=L then off else off+L*P.cellsOf e,none⟩) (H - L) (n - L)) w:=by
 simp only [Instr.sliceAt,aw,aW hd,ay,Instr.sureAddr,aA,hb,fV hi,mK]
 split<;>rfl
theorem nI {t e:TypeId} {n cp:Nat} {ti:TypeInfo} (hd:P.underlying t=some (.slice e)) (hi:P.info? e=some ti) {lo hi':Option Value} {L H r off:Nat} {w:World}
  (hb:(Instr.sliceBounds true n cp lo hi' none).run P w=.ok (L,H,cp) w):
  (Instr.sliceAt t (.slice (some ⟨r,off,none⟩) n cp) lo hi' none).run P w=.ok (.slice (some ⟨r,if cp=L then off else off+L*P.cellsOf e,none⟩) (H - L) (cp - L)) w:=by
 simp only [Instr.sliceAt,Instr.slice,aw,aW hd,ay,hb,fV hi,aA]
 split
 ·rfl
 ·simp only [eK,mK]
theorem kC (n l x y:Nat):cond (Nat.beq n l) x y=if n=l then x else y:=by
 by_cases h:n=l
 ·subst h;simp
 ·have:Nat.beq n l=false:=by
   cases hb:Nat.beq n l
   ·rfl
   ·exact absurd (bE hb) h
  simp [this,h]
theorem tf {t e:TypeId} {ti:TypeInfo} {ao:Option Addr} (hd:P.underlying t=some (.slice e)) (hi:P.info? e=some ti) {lo hi':Option Value} {w:World}
  (hb:(Instr.sliceBounds true 0 0 lo hi' none).run P w=.ok (0,0,0) w):
  (Instr.sliceAt t (.slice ao 0 0) lo hi' none).run P w=.ok (.slice ao 0 0) w:=by
 simp only [Instr.sliceAt,Instr.slice,aw,aW hd,ay,hb,fV hi,aA,aQ]
theorem BQ {T:List (Nat×Option V)} (ht:TR ι T a.tmps) {lo hi:Option Operand} {l h:Option Int} (hl:qb (opd T) lo=some l)
  (hh:qb (opd T) hi=some h) {len:Nat} {c:Nat->Nat->Option α} (hz:(hiK len len h λh=>loK h l λl=>c h l)=some z):
  ∃H L,c H L=some z/\H<=len/\L<=H/\∀n,len<=n->∀w,(Instr.sliceBounds true len n (lo.map a.eval) (hi.map a.eval) none).run P w=.ok (L,H,n) w:=by
 have hlo:∀{H:Nat},loK H l (c H)=some z->∃L,c H L=some z/\L<=H/\
   ∀w,(match lo.map a.eval with | some v=>Instr.sliceBound v H .sliceB | none=>pure 0).run P w=.ok L w:=by
  intro H hz
  rcases oy ht hl with ⟨rfl,h1⟩ | ⟨k,m,rfl,h1⟩
  ·exact ⟨0,hz,sj _,λw=>by rw [h1];rfl⟩
  ·simp only [loK] at hz
   obtain ⟨L,h2,h3⟩:=av hz
   obtain ⟨g0,g1,rfl⟩:=kT h2
   exact ⟨_,h3,by omega,λw=>by rw [h1];exact run_sliceBound w k m H .sliceB g0 g1⟩
 rcases oy ht hh with ⟨rfl,h1⟩ | ⟨k,m,rfl,h1⟩
 ·simp only [hiK] at hz
  obtain ⟨L,h2,h3,h5⟩:=hlo hz
  refine ⟨len,L,h2,aV _,h3,λn hn w=>?_⟩
  have h5:=h5 w
  rw [h1]
  simp only [Instr.sliceBounds,aw,aA,ay,wE,bP,aE]
  cases hlm:lo.map a.eval with
  | none=>rw [hlm] at h5;simp only [aA,wo,xq] at h5;simp [h5]
  | some v=>rw [hlm] at h5;simp only [] at h5;simp [h5]
 ·simp only [hiK] at hz
  obtain ⟨H,h2,h3⟩:=av hz
  obtain ⟨g0,g1,rfl⟩:=kT h2
  obtain ⟨L,h4,h5,h7⟩:=hlo h3
  refine ⟨_,L,h4,by omega,h5,λn hn w=>?_⟩
  have h7:=h7 w
  rw [h1]
  have hb:=run_sliceBound (P:=P) w k m n .sliceAcap g0 (by omega)
  simp only [Instr.sliceBounds,aw,aA,ay,wE,bP,aE,aQ,hb]
  cases hlm:lo.map a.eval with
  | none=>rw [hlm] at h7;simp only [aA,wo,xq] at h7;simp [h7]
  | some v=>rw [hlm] at h7;simp only [] at h7;simp [h7]
theorem K3 {t:TypeId} {x:Operand} {lo hi:Option Operand} (ho:o.op=.slice t x lo hi none) (hT:TR ι s.T a.tmps) (hW:WR ι s.H s.nb w) (h:effK P (opd s.T) s.H f (.slice t x lo hi none) c=some z):
  ∃e,c e=some z/\gz P ι f o a w e:=by
 simp only [effK] at h
 obtain ⟨v,hx,q1⟩:=av h
 obtain ⟨l,hl,q2⟩:=av q1
 obtain ⟨hh,hhi,q3⟩:=av q2
 clear h q1 q2
 have hv:=bn hT hx
 clear hx
 split at q3
 ·rename_i hd
  cases v<;>simp only [reduceCtorEq] at q3
  rename_i sl
  simp only [VR] at hv
  obtain ⟨H,L,h1,_,_,_,h5,_,h7⟩:=wg (P:=P) hT hl hhi (isSlice:=false) q3
  refine ⟨_,h1,.val (x:=.string ⟨((sl.take H).drop L).toArray⟩) ?_ (by simp [VR])⟩
  simp only [execOp,ho,hv,aw,iJ]
  rw [y8 hd (h7 w)]
  rfl
 ·rename_i n e hd
  split at q3
  case h_2=>cases q3
  rename_i hp
  obtain ⟨ti,hti⟩:=bU hp
  cases v<;>simp only [reduceCtorEq] at q3
  rename_i b off
  simp only [VR] at hv
  obtain ⟨r,h5,h6⟩:=hv
  obtain ⟨H,L,h1,_,g2,g3,g4,_,h7⟩:=wg (P:=P) hT hl hhi (isSlice:=false) q3
  have hHn:H<=n:=by
   cases hh with
   | none=>exact xK (g2 rfl)
   | some q=>exact g3 (by simp)
  refine ⟨_,h1,.val (x:=.slice (some ⟨r.r,if n=L then off else off+L*P.cellsOf e,none⟩) (H - L) (n - L)) ?_ ?_⟩
  ·simp only [execOp,ho,h6,aw,iJ]
   rw [AM hd hti (h7 w)]
   rfl
  ·simp only [VR]
   exact ⟨r,n - L,h5,λm hm=>by cases hm;rfl,by omega,by rw [kC,pE,xy]⟩
 ·rename_i e hd
  split at q3
  case h_2=>cases q3
  rename_i hp
  obtain ⟨ti,hti⟩:=bU hp
  cases v<;>try (simp only [reduceCtorEq] at q3;done)
  ·rename_i b
   simp only [VR] at hv
   simp only at q3
   split at q3
   case h_2=>cases q3
   rename_i tr m hb
   split at q3
   case h_2=>cases q3
   rename_i hz
   have hz:=bE hz
   obtain ⟨H,L,h1,g2,g3,h7⟩:=BQ (P:=P) hT hl hhi q3
   rcases jh hW hb with ⟨q,cs,e',fr,q1,q2,q4,q5,_,_,_⟩ | ⟨q1,rfl⟩
   ·rcases hv with ⟨q',h5,h6⟩ | ⟨h5,_⟩
    ·rw [h5] at q1;cases q1
     refine ⟨_,h1,.val (x:=.slice (some ⟨q.r,if q.k=L then q.o else q.o+L*P.cellsOf e,none⟩) (H - L) (q.k - L)) ?_ ?_⟩
     ·simp only [execOp,ho,h6,aw,iJ]
      rw [<-q4,nI hd hti (h7 q.k (by omega) w)]
      rfl
     ·simp only [VR]
      exact .inl ⟨q,_,_,h5,⟨by omega,kb⟩,λhpos=>by rw [ab (by omega)],rfl⟩
    ·rw [h5] at q1;cases q1
   ·rcases hv with ⟨q,h5,h6⟩ | ⟨h5,ao,h6⟩
    ·rw [h5] at q1;cases q1
    ·simp only [bj,Aw] at g2 g3
     subst g2
     simp only [Aw] at g3
     subst g3
     refine ⟨_,h1,.val (x:=.slice ao 0 0) ?_ (by unfold VR;exact .inr ⟨h5,⟨rfl,kb⟩,ao,rfl⟩)⟩
     simp only [execOp,ho,h6,aw,iJ]
     rw [tf hd hti (h7 0 (aV _) w)]
     rfl
  ·rename_i zz b j n _
   simp only [VR] at hv
   simp only at q3
   split at q3
   case h_2=>cases q3
   rename_i hz
   have hz:=bE hz
   obtain ⟨H,L,h1,g2,g3,h7⟩:=BQ (P:=P) hT hl hhi q3
   rcases hv with ⟨q,cp,off,h5,⟨hle,_⟩,hoff,h6⟩ | ⟨h5,⟨rfl,_⟩,ao,h6⟩
   ·refine ⟨_,h1,.val (x:=.slice (some ⟨q.r,if cp=L then off else off+L*P.cellsOf e,none⟩) (H - L) (cp - L)) ?_ ?_⟩
    ·simp only [execOp,ho,h6,aw,iJ]
     rw [nI hd hti (h7 cp hle w)]
     rfl
    ·simp only [VR]
     exact .inl ⟨q,_,_,h5,⟨by omega,kb⟩,λhpos=>by rw [ab (by omega),hoff (by omega),pE,gL,hz,gO],rfl⟩
   ·simp only [Aw] at g2
    subst g2
    simp only [Aw] at g3
    subst g3
    refine ⟨_,h1,.val (x:=.slice ao 0 0) ?_ (by unfold VR;exact .inr ⟨h5,⟨rfl,kb⟩,ao,rfl⟩)⟩
    simp only [execOp,ho,h6,aw,iJ]
    rw [tf hd hti (h7 0 (aV _) w)]
    rfl
  rename_i b off n cap
  simp only [VR] at hv
  obtain ⟨r,cp,h5,hcp,hle,h6⟩:=hv
  cases cap with
  | some m=>
   obtain rfl:=hcp m rfl
   obtain ⟨H,L,h1,_,g2,g3,g4,_,h7⟩:=wg (P:=P) hT hl hhi (isSlice:=true) q3
   have hHn:H<=cp:=by
    cases hh with
    | none=>have:=g2 rfl;omega
    | some q=>exact g3 (by simp)
   refine ⟨_,h1,.val (x:=.slice (some ⟨r.r,if cp=L then off else off+L*P.cellsOf e,none⟩) (H - L) (cp - L)) ?_ ?_⟩
   ·simp only [execOp,ho,h6,aw,iJ]
    rw [nI hd hti (h7 w)]
    rfl
   ·simp only [VR]
    exact ⟨r,cp - L,h5,λm hm=>by cases hm;rfl,by omega,by rw [kC,pE,xy]⟩
  | none=>
   have hll:l=none:=by
    cases l with
    | none=>rfl
    | some q=>
     cases hh with
     | none=>simp [hiK] at q3
     | some q=>simp only [hiK] at q3;obtain ⟨_,_,q4⟩:=av q3;cases q4
   subst hll
   have hlo:lo.map a.eval=none:=by
    rcases oy hT hl with ⟨_,h1⟩ | ⟨k,m,h0,_⟩
    ·exact h1
    ·cases h0
   have key:∃H,c { val:=some (.sl b off H none) }=some z/\H<=n/\(Instr.sliceBounds true n cp (lo.map a.eval) (hi.map a.eval) none).run P w=.ok (0,H,cp) w:=by
    rcases oy hT hhi with ⟨rfl,h1⟩ | ⟨k,m,rfl,h1⟩
    ·simp only [hiK] at q3
     exact ⟨n,q3,aV _,by rw [h1,hlo];simp [Instr.sliceBounds]⟩
    ·simp only [hiK] at q3
     obtain ⟨H,h2,h3⟩:=av q3
     obtain ⟨g0,g1,rfl⟩:=kT h2
     refine ⟨_,h3,by omega,?_⟩
     have hb:=run_sliceBound (P:=P) w k m cp .sliceAcap g0 (by omega)
     rw [h1,hlo]
     simp [Instr.sliceBounds,hb]
   obtain ⟨H,h1,h2,h3⟩:=key
   refine ⟨_,h1,.val (x:=.slice (some ⟨r.r,if cp=0 then off else off+0*P.cellsOf e,none⟩) (H - 0) (cp - 0)) ?_ ?_⟩
   ·simp only [execOp,ho,h6,aw,iJ]
    rw [nI hd hti h3]
    rfl
   ·simp only [VR]
    exact ⟨r,cp,h5,λm hm=>(by cases hm),by omega,by simp⟩
 ·cases q3
theorem ww (ns:List Int):ns.foldl (λ(r:ByteArray) n=>r.push (UInt8.ofNat n.toNat)) ByteArray.empty=⟨(ib ns).toArray⟩:=by
 rw [foldl_push_bytes]
 apply iO9
 simp [ib]
theorem xN {w:World} {r off q m cp:Nat} {l:List Int} {e:TypeId} {fr:Nat×Nat} (h:w.heap[r]?=some (.cells (l.map (Value.int .u8)).toArray e fr)) (hl:l.length=q) (hm:off+m<=q):
  (Conv.bytesToString (.slice (some ⟨r,off,none⟩) m cp)).run P w=.ok (.string ⟨(ib ((l.drop off).take m)).toArray⟩) w:=by
 have hlen:(((l.drop off).take m).map (Value.int .u8)).length=m:=by simp;omega
 have hc:=wR (P:=P) w ⟨r,off,none⟩ (((l.drop off).take m).map (Value.int .u8)) (λj v hj=>by
  have hjm:j<m:=by
   rcases aG j m with h' | h'
   ·exact h'
   ·rw [gU (by omega)] at hj;cases hj
  rw [mK,bH h]
  rw [my,pN hjm,mn] at hj
  simpa using hj)
 rw [hlen] at hc
 rw [run_bytesToString w _ m cp _ hc,ww]
theorem y4 (w:World) (e:TypeId) (s:ByteArray):
  Lib.bytesWorld w e s=World.alloc { w with drawn:=w.drawn+1 } (.cells (Lib.bytesCells w e s) e ((Lib.bytesCells w e s).size,(Lib.bytesCells w e s).size+1)):=by
 have h1:=Lib.bytesWorld_at_new w e s
 have h2:=Lib.bytesWorld_size w e s
 have hh:(Lib.bytesWorld w e s).heap=w.heap.push (.cells (Lib.bytesCells w e s) e ((Lib.bytesCells w e s).size,(Lib.bytesCells w e s).size+1)):=by
  apply Qv
  intro j
  by_cases hj:j=w.heap.size
  ·subst hj;rw [h1];simp
  ·by_cases hlt:j<w.heap.size
   ·rw [Lib.bytesWorld_at_old w e s j hlt,Array.getElem?_push,ab hj]
   ·rw [vU (by omega),vU (by simp;omega)]
 show ({ (Lib.bytesWorld w e s) with heap:=(Lib.bytesWorld w e s).heap }:World)=_
 rw [hh]
 rfl
theorem rj:∀(l:List Int),l.flatMap (vals [.i .u8])=l.map (Value.int .u8)
 | []=>rfl
 | x::l=>by
  have:=rj l
  simp only [pQ,fE,vals,Lf.val] at this ⊢
  rw [this];rfl
theorem rA {w:World} {r cp:Nat} {l:List Int} {cs:Array Value} {e:TypeId} {fr:Nat×Nat} {m:Nat} (h:w.heap[r]?=some (.cells cs e fr)) (_hs:m<=cs.size)
  {o:Nat} (hl:(cs.toList.drop o).take (l.length*([Lf.i .u8]:List Lf).length)=l.flatMap (vals [.i .u8])) {j n:Nat} (hm:j+n<=l.length):
  (Conv.bytesToString (.slice (some ⟨r,o+j,none⟩) n cp)).run P w=.ok (.string ⟨(ib ((l.drop j).take n)).toArray⟩) w:=by
 have hl':(cs.toList.drop o).take l.length=l.map (Value.int .u8):=by rw [<-rj];simpa using hl
 have hlen:(((l.drop j).take n).map (Value.int .u8)).length=n:=by simp;omega
 have hc:=wR (P:=P) w ⟨r,o+j,none⟩ (((l.drop j).take n).map (Value.int .u8)) (λi v hj=>by
  have hjm:i<n:=by
   rcases aG i n with h' | h'
   ·exact h'
   ·rw [gU (by omega)] at hj;cases hj
  rw [mK,bH h]
  rw [my,pN hjm,mn] at hj
  have h2:=dm (λq:List Value=>q[j+i]?) hl'
  simp only [pN (show j+i<l.length by omega),my,mn] at h2
  rw [hj] at h2
  simpa [gO] using h2)
 rw [hlen] at hc
 rw [run_bytesToString w _ n cp _ hc,ww]
theorem rL {w:World} (ao:Option Addr):(Conv.bytesToString (.slice ao 0 0)).run P w=.ok (.string ⟨#[]⟩) w:=by
 cases ao with
 | none=>rfl
 | some a=>
  have hc0:=wR (P:=P) w a ([].map (Value.int .u8)) (λj v hj=>by simp at hj)
  exact run_bytesToString (P:=P) w a 0 0 [] hc0
theorem Eo {sr d:TypeId} {x:Operand} (ho:o.op=.convert sr d x) (hT:TR ι s.T a.tmps) (hW:WR ι s.H s.nb w) (h:effK P (opd s.T) s.H f (.convert sr d x) c=some z):
  ∃e,c e=some z/\gz P ι f o a w e:=by
 simp only [effK] at h
 obtain ⟨v,hx,q⟩:=av h
 clear h
 have hv:=bn hT hx
 clear hx
 split at q
 case h_2=>cases q
 rename_i ds hs
 split at q
 ·rename_i k hd
  cases v<;>simp only [reduceCtorEq] at q
  rename_i k' n
  simp only [VR] at hv
  refine ⟨_,q,.val (x:=.int k (k.wrap n)) ?_ (by simp [VR])⟩
  simp only [execOp,ho,hv,aw,convert,aW hs,aW hd,ay]
  cases ds<;>rfl
 ·rename_i hd
  cases v<;>simp only [reduceCtorEq] at q
  ·rename_i b
   simp only [VR] at hv
   cases ds<;>try (simp only [reduceCtorEq] at q;done)
   rename_i e
   simp only at q
   split at q
   case h_2=>cases q
   rename_i he
   split at q
   case h_2=>cases q
   rename_i l hb
   refine ⟨_,q,.val (x:=.string ⟨(ib l).toArray⟩) ?_ (by simp [VR])⟩
   rcases jh hW hb with ⟨q,cs,e',fr,q1,q2,q4,q5,q6,q7,_⟩ | ⟨q1,rfl⟩
   ·rcases hv with ⟨q',h5,h6⟩ | ⟨h5,_⟩
    ·rw [h5] at q1;cases q1
     simp only [execOp,ho,h6,aw,run_convert_bytes_string w sr d e _ _ _ hs he hd]
     rw [<-q4]
     have:=rA (P:=P) (cp:=q.k) q2 q6 q7 (j:=0) (n:=l.length) (by omega)
     simp only [gy,oU,cD] at this
     rw [this]
     rfl
    ·rw [h5] at q1;cases q1
   ·rcases hv with ⟨q,h5,h6⟩ | ⟨h5,ao,h6⟩
    ·rw [h5] at q1;cases q1
    ·simp only [execOp,ho,h6,aw,run_convert_bytes_string w sr d e ao 0 0 hs he hd,rL]
     rfl
  ·rename_i zz b j n _
   simp only [VR] at hv
   cases ds<;>try (simp only [reduceCtorEq] at q;done)
   rename_i e
   simp only at q
   split at q
   case h_2=>cases q
   rename_i he
   split at q
   case h_2=>cases q
   rename_i l hb
   split at q
   case h_2=>cases q
   rename_i hz
   have hz:=bE hz
   subst hz
   obtain ⟨hc,q⟩:=eO q
   have hle:=aI hc
   refine ⟨_,q,.val (x:=.string ⟨(ib ((l.drop j).take n)).toArray⟩) ?_ (by simp [VR])⟩
   rcases hv with ⟨qq,cp,off,h5,⟨g1,_⟩,g2,h6⟩ | ⟨h5,⟨rfl,_⟩,ao,h6⟩
   ·rcases jh hW hb with ⟨q',cs,e',fr,q1,q2,q4,q5,q6,q7,_⟩ | ⟨q1,rfl⟩
    ·rw [h5] at q1;cases q1
     simp only [execOp,ho,h6,aw,run_convert_bytes_string w sr d e _ _ _ hs he hd]
     by_cases hn:0<n
     ·rw [g2 hn,qf]
      rw [rA (P:=P) (cp:=cp) q2 q6 q7 hle]
      rfl
     ·have hn0:n=0:=by omega
      subst hn0
      have hc0:=wR (P:=P) w ⟨qq.r,off,none⟩ ([].map (Value.int .u8)) (λj v hj=>by simp at hj)
      have h0:=run_bytesToString (P:=P) w ⟨qq.r,off,none⟩ 0 cp [] hc0
      rw [h0]
      simp [ib]
      rfl
    ·rw [h5] at q1;cases q1
   ·simp only [execOp,ho,h6,aw,run_convert_bytes_string w sr d e ao 0 0 hs he hd,rL]
    simp [ib]
  ·rename_i k' n
   simp only [VR] at hv
   cases ds<;>simp only [reduceCtorEq] at q
   refine ⟨_,q,.val (x:=.string (Utf8.encode n)) ?_ ?_⟩
   ·simp only [execOp,ho,hv,aw,convert,aW hs,aW hd,ay,Conv.intToString,aA]
   ·simp [VR]
  ·rename_i l
   simp only [VR] at hv
   cases ds<;>simp only [reduceCtorEq] at q
   refine ⟨_,q,.val (x:=.string ⟨l.toArray⟩) ?_ (by simp [VR])⟩
   simp only [execOp,ho,hv,aw,convert,aW hs,aW hd,ay,aA]
  ·simp only [VR] at hv
   cases ds<;>try (simp only [reduceCtorEq] at q;done)
   rename_i e
   simp only at q
   split at q
   ·rename_i he
    refine ⟨_,q,.val (x:=.string .empty) ?_ (by simp only [VR];rfl)⟩
    simp only [execOp,ho,hv,aw,run_convert_bytes_string w sr d e none 0 0 hs he hd]
    rfl
   ·cases q
  ·rename_i b off m cap
   simp only [VR] at hv
   obtain ⟨r,cp,h5,_,_,h6⟩:=hv
   cases ds<;>try (simp only [reduceCtorEq] at q;done)
   rename_i e
   simp only at q
   split at q
   ·rename_i he
    split at q
    ·rename_i qn l hb
     obtain ⟨hc,q⟩:=eO q
     have hle:=aI hc
     obtain ⟨r',e',fr,g1,g2,g3,_⟩:=vb hW hb
     rw [h5] at g1;cases g1
     refine ⟨_,q,.val (x:=.string ⟨(ib ((l.drop off).take m)).toArray⟩) ?_ (by simp [VR])⟩
     simp only [execOp,ho,h6,aw,run_convert_bytes_string w sr d e _ _ _ hs he hd,xN g2 g3 hle,ay,aA]
    ·cases q
   ·cases q
 ·rename_i e hd
  split at q
  case h_2=>cases q
  rename_i he
  cases v<;>try (simp only [reduceCtorEq] at q;done)
  rename_i l
  simp only [VR] at hv
  cases ds<;>simp only [reduceCtorEq] at q
  refine ⟨_,q,.mkR (d:=w.drawn+1) (q:=(Rf.of w.heap.size (l.length) (grownCap w l.length 0 e))) (x:=.slice (some ⟨w.heap.size,0,none⟩) l.length (grownCap w l.length 0 e))
   (ob:=.cells (Lib.bytesCells w e ⟨l.toArray⟩) e ((Lib.bytesCells w e ⟨l.toArray⟩).size,(Lib.bytesCells w e ⟨l.toArray⟩).size+1)) ?_ rfl rfl ?_ ?_⟩
  ·simp only [execOp,ho,hv,aw,Lib.run_convert_string_bytes w sr d e ⟨l.toArray⟩ hs hd he,ay,aA,y4]
   rfl
  ·have hcap:l.length<=grownCap w l.length 0 e:=by simp only [grownCap,Question.cut];omega
   have hb0:((ByteArray.mk l.toArray).data.map λb=>Value.int .u8 b.toNat).size=l.length:=by simp
   refine ⟨_,e,_,rfl,by simp,hcap,?_,?_,?_⟩
   ·simp only [Lib.bytesCells,Array.size_append,hb0,Array.size_replicate,aD,bj]
    have:(ByteArray.mk l.toArray).size=l.length:=rfl
    rw [this]
    omega
   ·simp only [Lib.bytesCells,wa,uz,aD,bj,cY,qf,gy]
    rw [uu (by simp),iP (by simp)]
    rw [rj,Array.toList_map,rW]
    rfl
   ·refine .inr λj hj hj2=>?_
    exact absurd hj2.1 (by simp only;omega)
  ·simp only [VR];exact .inl ⟨_,dk _ _ _,rfl⟩
 ·cases q
theorem M5 {cl:Call} (ho:o.op=.call cl) (hT:TR ι s.T a.tmps) (hW:WR ι s.H s.nb w) (h:effK P (opd s.T) s.H f (.call cl) c=some z):
  ∃e,c e=some z/\gz P ι f o a w e:=by
 obtain ⟨callee,args,tys⟩:=cl
 simp only [effK] at h
 split at h
 case h_2=>cases h
 rename_i b
 obtain ⟨l,hl,q⟩:=av h
 clear h
 have hvs:=wX hT hl
 have hargs:(args.map a.eval).toList=args.toList.map a.eval:=by simp
 rw [<-hargs] at hvs
 generalize hA:args.map a.eval=A at hvs
 have hres:∃cs,∀w,((do let d <-resolve a.eval ⟨.builtin b,args,tys⟩ o.type;invoke d.target d.args):Sem Next).run P w=(builtin b tys o.type cs A).run P w:=by
  refine ⟨args.map fun | .const _=>true | _=>false,λw=>?_⟩
  simp only [resolve,hA,aw,aA,ay,invoke]
  rfl
 obtain ⟨cs,hres⟩:=hres
 have one:∀{X:Value},A.toList=[X]->A[0]?=some X:=by
  intro X hX
  have:A=#[X]:=by apply lP;simpa using hX
  simp [this]
 have ty:∀{t:TypeId} {r:List TypeId},tys.toList=t::r->tys[0]?=some t:=by
  intro t r ht
  rw [<-r7,ht];rfl
 have lenfin:∀{n:Int} {rd:List Nat},b=.len->(∀w,(Builtin.len_ tys o.type A).run P w=.ok (goInt n) w)->c { val:=some (.i .i64 n),rd:=rd }=some z->∃e,c e=some z/\gz P ι f o a w e:=by
  intro n rd hb hrun hc
  subst hb
  refine ⟨_,hc,.val (x:=.int .i64 n) ?_ (by simp [VR])⟩
  simp only [execOp,ho]
  rw [hres w]
  simp only [builtin,aw,hrun,ay,aA,goInt]
 have capfin:∀{n:Int} {rd:List Nat},b=.cap->(∀w,(Builtin.cap_ tys o.type A).run P w=.ok (goInt n) w)->c { val:=some (.i .i64 n),rd:=rd }=some z->∃e,c e=some z/\gz P ι f o a w e:=by
  intro n rd hb hrun hc
  subst hb
  refine ⟨_,hc,.val (x:=.int .i64 n) ?_ (by simp [VR])⟩
  simp only [execOp,ho]
  rw [hres w]
  simp only [builtin,aw,hrun,ay,aA,goInt]
 split at q
 ·split at q
  ·rename_i sl
   simp only [VRs,VR] at hvs
   obtain ⟨_,_,hX,rfl,rfl⟩:=hvs
   split at q
   ·rename_i t r ht
    split at q
    ·rename_i hd
     refine lenfin rfl (λw=>?_) q
     simp only [Builtin.len_,ty ht,one hX,aw,aW hd,ay,aA]
     rfl
    ·cases q
   ·cases q
  ·rename_i bb oo n cp
   simp only [VRs,VR] at hvs
   obtain ⟨_,_,hX,⟨r,cap,_,_,_,rfl⟩,rfl⟩:=hvs
   split at q
   ·rename_i t r ht
    split at q
    ·rename_i hd
     refine lenfin rfl (λw=>?_) q
     simp only [Builtin.len_,ty ht,one hX,aw,aW hd,ay,aA]
    ·cases q
   ·cases q
  ·simp only [VRs,VR] at hvs
   obtain ⟨_,_,hX,rfl,rfl⟩:=hvs
   split at q
   ·rename_i t r ht
    split at q
    ·rename_i hd
     refine lenfin rfl (λw=>?_) q
     simp only [Builtin.len_,ty ht,one hX,aw,aW hd,ay,aA]
     rfl
    ·cases q
   ·cases q
  ·rename_i bb
   simp only [VRs,VR] at hvs
   obtain ⟨_,_,hX,hv,rfl⟩:=hvs
   split at q
   ·rename_i t r ht
    split at q
    ·rename_i hd
     split at q
     ·rename_i tr l hb
      refine lenfin (rd:=[bb]) rfl (λw=>?_) q
      rcases jh hW hb with ⟨q,cs,e',fr,q1,q2,q4,q5,q6,q7,_⟩ | ⟨q1,rfl⟩
      ·rcases hv with ⟨q',h5,rfl⟩ | ⟨h5,_⟩
       ·rw [h5] at q1;cases q1
        simp only [Builtin.len_,ty ht,one hX,aw,aW hd,ay,aA,q4]
       ·rw [h5] at q1;cases q1
      ·rcases hv with ⟨q,h5,_⟩ | ⟨h5,ao,rfl⟩
       ·rw [h5] at q1;cases q1
       ·simp only [Builtin.len_,ty ht,one hX,aw,aW hd,ay,aA]
        rfl
     ·cases q
    ·cases q
   ·cases q
  ·rename_i zz bb jj n _
   simp only [VRs,VR] at hvs
   obtain ⟨_,_,hX,hv,rfl⟩:=hvs
   split at q
   ·rename_i t r ht
    split at q
    ·rename_i hd
     refine lenfin rfl (λw=>?_) q
     rcases hv with ⟨q,cp,off,h5,_,_,rfl⟩ | ⟨_,⟨rfl,_⟩,ao,rfl⟩
     ·simp only [Builtin.len_,ty ht,one hX,aw,aW hd,ay,aA]
     ·simp only [Builtin.len_,ty ht,one hX,aw,aW hd,ay,aA]
    ·cases q
   ·cases q
  ·simp only [VRs] at hvs
   obtain ⟨X,_,hX,_,rfl⟩:=hvs
   split at q
   ·rename_i t r ht
    split at q
    ·rename_i hd
     refine lenfin rfl (λw=>?_) q
     simp only [Builtin.len_,ty ht,one hX,aw,aW hd,ay,aA]
    ·cases q
   ·cases q
  ·cases q
 ·split at q
  ·rename_i zz bb jj nn m
   simp only [VRs,VR] at hvs
   obtain ⟨_,_,hX,hv,rfl⟩:=hvs
   split at q
   ·rename_i t r ht
    split at q
    ·rename_i hd
     refine capfin rfl (λw=>?_) q
     rcases hv with ⟨q,cp,off,h5,⟨_,hc⟩,_,rfl⟩ | ⟨_,⟨_,hc⟩,ao,rfl⟩
     ·have:=hc m rfl
      subst this
      simp only [Builtin.cap_,ty ht,one hX,aw,aW hd,ay,aA]
     ·have:=hc m rfl
      subst this
      simp only [Builtin.cap_,ty ht,one hX,aw,aW hd,ay,aA]
    ·cases q
   ·cases q
  ·rename_i bb oo nn m
   simp only [VRs,VR] at hvs
   obtain ⟨_,_,hX,⟨qq,cp,h5,hc,_,rfl⟩,rfl⟩:=hvs
   split at q
   ·rename_i t r ht
    split at q
    ·rename_i hd
     refine capfin rfl (λw=>?_) q
     have:=hc m rfl
     subst this
     simp only [Builtin.cap_,ty ht,one hX,aw,aW hd,ay,aA]
    ·cases q
   ·cases q
  ·simp only [VRs,VR] at hvs
   obtain ⟨_,_,hX,rfl,rfl⟩:=hvs
   split at q
   ·rename_i t r ht
    split at q
    ·rename_i hd
     refine capfin rfl (λw=>?_) q
     simp only [Builtin.cap_,ty ht,one hX,aw,aW hd,ay,aA]
     rfl
    ·cases q
   ·cases q
  ·cases q
 ·split at q
  ·rename_i k x k' y
   split at q
   ·rename_i hk
    have hk:=kG hk
    subst hk
    simp only [VRs,VR] at hvs
    obtain ⟨_,_,hX,rfl,_,_,rfl,rfl,rfl⟩:=hvs
    refine ⟨_,q,.val (x:=.int k (cond (decide (y<x)) y x)) ?_ (by simp [VR])⟩
    simp only [execOp,ho]
    rw [hres w]
    simp only [builtin,aw,Builtin.min_,hX,List.foldlM,Builtin.min2,aA,ay]
    by_cases hlt:y<x<;>simp [hlt]
   ·cases q
  ·cases q
 ·split at q
  ·rename_i k x k' y
   split at q
   ·rename_i hk
    have hk:=kG hk
    subst hk
    simp only [VRs,VR] at hvs
    obtain ⟨_,_,hX,rfl,_,_,rfl,rfl,rfl⟩:=hvs
    refine ⟨_,q,.val (x:=.int k (cond (decide (y>x)) y x)) ?_ (by simp [VR])⟩
    simp only [execOp,ho]
    rw [hres w]
    simp only [builtin,aw,Builtin.max_,hX,List.foldlM,Builtin.max2,aA,ay]
    by_cases hlt:y>x<;>simp [hlt]
   ·cases q
  ·cases q
 ·cases q
theorem Ur {op:UnOp} {x:V} {X:Value} {c:V->Option α} (h:unK op x c=some z) (hx:VR ι x X) (w:World):
  ∃v R,c v=some z/\VR ι v R/\(Op.unary op X).run P w=.ok R w:=by
 unfold unK at h
 split at h
 ·simp only [VR] at hx;subst hx
  exact ⟨_,_,h,rfl,rfl⟩
 ·simp only [VR] at hx;subst hx
  exact ⟨_,_,h,rfl,rfl⟩
 ·cases h
theorem NW {x:Operand} {str:Bool} (ho:o.op=.next x str) (hT:TR ι s.T a.tmps) (hW:WR ι s.H s.nb w) (h:effK P (opd s.T) s.H f (.next x str) c=some z):
  ∃e,c e=some z/\gz P ι f o a w e:=by
 simp only [effK] at h
 split at h
 case h_2=>cases h
 rename_i b hx
 have hv:=bn hT hx
 simp only [VR] at hv
 obtain ⟨r,h5,h6⟩:=hv
 split at h
 case h_2=>cases h
 rename_i l pos hb
 obtain ⟨r',ob,g1,g2,g3⟩:=(hW.blk b _ hb (by simp)).real (by simp)
 rw [h5] at g1;cases g1
 simp only [BR] at g3
 subst g3
 have hsz:(ByteArray.mk l.toArray).size=l.length:=rfl
 have hget:(getObj r.r).run P w=.ok (.stringIter ⟨l.toArray⟩ pos) w:=by simp [getObj,Sem.run,g2]
 cases hc:Nat.blt pos l.length with
 | false=>
  rw [hc] at h
  have hn:¬pos<l.length:=λhlt=>by rw [show Nat.blt pos l.length=true from dG hlt] at hc;cases hc
  refine ⟨_,h,.val (x:=.tuple #[.bool false]) ?_ (by simp [VR,VRs])⟩
  simp only [execOp,ho,h6,Instr.next,aw,hget,ay,hsz,hn,aE,aA]
 | true=>
  rw [hc] at h
  have hlt:pos<l.length:=aI hc
  refine ⟨_,h,?_⟩
  unfold gz
  have hset:∀ob,(Go.setObj r.r ob).run P w=.ok () (setObj w r.r ob):=by
   intro ob
   simp [Go.setObj,Sem.run,g2,setObj]
  refine ⟨r,h5,λ_=>⟨.stringIter ⟨l.toArray⟩ (pos+(dec l pos).2),.value (.tuple #[.bool true,.int .i64 pos,.int .i32 (dec l pos).1]),?_,rfl,.value _ λu hu=>by cases hu;simp [VR,VRs]⟩⟩
  simp only [execOp,ho,h6,Instr.next,aw,hget,ay,hsz,hlt,aQ,hset,aA,dec,goInt]
theorem GB {t:List Lf} (x:den t):∀n,(List.replicate n x).flatMap (vals t)=(List.replicate n (vals t x)).flatten
 | 0=>rfl
 | n+1=>by simp [rQ,pQ,GB x n]
theorem Lr {l:List Value}:∀n:Nat,(List.replicate n l).flatten.length=n*l.length
 | 0=>by simp
 | n+1=>by rw [rQ,Jk,aM,Lr n,gL];omega
theorem LF {l:List Value}:∀(n j:Nat),j<n*l.length->(List.replicate n l).flatten[j]?=l[j%l.length]?
 | 0,j,h=>by simp at h
 | n+1,j,h=>by
  simp only [rQ,Jk]
  by_cases hlt:j<l.length
  ·rw [nh hlt,qK hlt]
  ·rw [pO (by omega),LF n _ (by rw [gL] at h;omega),<-Nat.mod_eq_sub_mod (by omega)]
theorem zh {t:TypeId} {x y:Operand} (ho:o.op=.makeSlice t x y) (hT:TR ι s.T a.tmps) (h:effK P (opd s.T) s.H f (.makeSlice t x y) c=some z):
  ∃e,c e=some z/\gz P ι f o a w e:=by
 simp only [effK] at h
 obtain ⟨u,hu,q1⟩:=av h
 obtain ⟨v,hv,q2⟩:=av q1
 clear h q1
 have hu:=bn hT hu
 have hv:=bn hT hv
 split at q2
 case h_2=>cases q2
 rename_i e hd
 split at q2
 case h_2=>cases q2
 rename_i k1 n k2 m _ _
 simp only [VR] at hu hv
 obtain ⟨zv,hzv,q2⟩:=av q2
 split at q2
 case h_2=>cases q2
 rename_i tr ti _ hti
 split at q2
 case h_2=>cases q2
 rename_i hb
 simp only [az,iV] at hb
 obtain ⟨e1,e2,e3,e4⟩:=hb
 have e3:=aI e3
 have e4:=aI e4
 obtain ⟨z',hz',q2⟩:=av q2
 obtain ⟨hc,q2⟩:=eO q2
 simp only [az,cb] at hc
 obtain ⟨c0,c1,c2⟩:=hc
 obtain ⟨zc,i,h1,h2,h3,_⟩:=uZ ι hzv
 rw [hti] at h1;cases h1
 have hzc:=mT h3
 rw [vp hz'] at hzc
 have hzc:=(nu ι tr z' _).1 hzc
 have hsz:ti.size=P.cellsOf e:=by unfold Program.cellsOf;rw [hti];rfl
 have hm:m=(m.toNat:Int):=by omega
 have hrun:=run_make (P:=P) w t e ti zc hd hti h2 k1 k2 n m c0 c1 (by
  rw [hm,<-Gh]
  have:ti.bytes*m.toNat<=1048576*67108864:=C9 e4 (by omega)
  omega) (by omega)
 refine ⟨_,q2,.mkR (d:=w.drawn) (q:=(Rf.of w.heap.size (n.toNat) (m.toNat))) (x:=.slice (some ⟨w.heap.size,0,none⟩) n.toNat m.toNat) (ob:=.cells (madeCells zc.cells (m.toNat*ti.size)) e) ?_ rfl rfl ?_ ?_⟩
 ·simp only [execOp,ho,hu,hv,aw,hrun,ay,aA]
 ·have hms:(madeCells zc.cells (m.toNat*ti.size)).size=m.toNat*ti.size:=size_madeCells _ _
  refine ⟨_,e,_,rfl,by simp,by simp only;omega,by rw [hms,hsz,e1];simp,?_,.inr (rX _)⟩
  simp only [gy]
  rw [GB,AB,<-hzc]
  apply Cm
  intro j
  have hzl:zc.cells.toList.length=tr.length:=by rw [hzc,jL]
  have hzs:zc.cells.size=tr.length:=by simpa using hzl
  have hle:n.toNat*tr.length<=m.toNat*tr.length:=nX _ (by omega)
  by_cases hj:j<n.toNat*tr.length
  ·rw [pN hj,LF n.toNat j (by rw [hzl];exact hj),hzl]
   have hmod:j%tr.length<zc.cells.size:=by rw [hzs];exact zO _ (by omega)
   simp only [madeCells,hsz,<-e1,hzs]
   rw [r7,Array.getElem?_map,Array.getElem?_range]
   simp [show j<m.toNat*tr.length by omega,hmod]
  ·rw [gU (by rw [cO];omega),gU (by rw [Lr,hzl];omega)]
 ·simp only [VR];exact .inl ⟨_,dk _ _ _,rfl⟩
theorem TW {op:BinOp} {t:TypeId} {x y:Operand} {u v:V} {r:Bool} {X Y:Value} (h:niK P op t x y u v=some r) (hx:VR ι u X) (hy:VR ι v Y) (w:World):
  (eqGuard op t x y X Y).run P w=.ok () w/\(binOp op t X Y).run P w=.ok (.bool r) w:=by
 unfold niK at h
 split at h
 case h_2=>cases h
 simp only [VR] at hx hy
 subst hx hy
 split at h
 case h_2=>cases h
 rename_i hc
 split at h
 case h_2=>cases h
 rename_i ms hd
 have hg:∀o:BinOp,o=.eql\/o=.neq->(eqGuard o t x y .nilIface .nilIface).run P w=.ok () w:=by
  intro o ho
  have hcc:(∃v,x=.const v)\/∃v,y=.const v:=by
   rw [gX] at hc
   refine hc.imp (λh=>?_) (λh=>?_)
   ·cases x<;>simp_all [Gu]
   ·cases y<;>simp_all [Gu]
  rcases hcc with ⟨v,rfl⟩ | ⟨v,rfl⟩<;>rcases ho with rfl | rfl<;>simp [eqGuard]
 have he:(Op.equal t .nilIface .nilIface).run P w=.ok true w:=by rw [eu,Op.equalIn];simp [aW hd]
 split at h
 ·simp only [aq] at h;subst h
  exact ⟨hg _ (.inl rfl),by simp [binOp,he]⟩
 ·simp only [aq] at h;subst h
  exact ⟨hg _ (.inr rfl),by simp [binOp,he]⟩
 ·cases h
theorem kj {t e:TypeId} {ti:TypeInfo} (hd:P.underlying t=some (.slice e)) (hi:P.info? e=some ti) {n cp:Nat} {ao:Option Addr} {k k':IntKind} {h m:Int} {H M:Nat} (hm:bx n m=some M) (hh:bx M h=some H) (hn:n<=cp) (w:World):
  (Instr.sliceAt t (.slice ao n cp) none (some (.int k h)) (some (.int k' m))).run P w=.ok (.slice ao H M) w:=by
 obtain ⟨m0,m1,rfl⟩:=kT hm
 obtain ⟨h0,h1,rfl⟩:=kT hh
 have e1:=run_sliceBound (P:=P) w k' m cp .slice3Acap m0 (by omega)
 have e2:=run_sliceBound (P:=P) w k h m.toNat .slice3B h0 h1
 simp only [Instr.sliceAt,Instr.slice,aw,aW hd,ay,Instr.sliceBounds,aQ,e1,e2,aA,fV hi,wl,Ap]
 split
 ·rfl
 ·cases ao with
  | none=>rfl
  | some q=>obtain ⟨r,o,x⟩:=q;simp [Addr.add]
theorem Hh {t:TypeId} {x mx:Operand} {lo hi:Option Operand} (ho:o.op=.slice t x lo hi (some mx)) (hT:TR ι s.T a.tmps) (hW:WR ι s.H s.nb w) (h:effK P (opd s.T) s.H f (.slice t x lo hi (some mx)) c=some z):
  ∃e,c e=some z/\gz P ι f o a w e:=by
 simp only [effK,uc] at h
 split at h
 case h_2=>cases h
 rename_i hh
 obtain ⟨v,hx,q1⟩:=av h
 clear h
 have hv:=bn hT hx
 clear hx
 split at q1
 case h_2=>cases q1
 rename_i k1 hi1 k2 m1 hhi hmi
 have v1:=bn hT hhi
 have v2:=bn hT hmi
 simp only [VR] at v1 v2
 split at q1
 case h_2=>cases q1
 rename_i e hd
 split at q1
 case h_2=>cases q1
 rename_i hp
 obtain ⟨ti,hti⟩:=bU hp
 split at q1
 ·rename_i b
  split at q1
  case h_2=>cases q1
  rename_i tr l hb
  split at q1
  case h_2=>cases q1
  obtain ⟨M,hM,q2⟩:=av q1
  obtain ⟨H,hH,q3⟩:=av q2
  obtain ⟨m0,m2,m3⟩:=kT hM
  obtain ⟨h0,h2,h3⟩:=kT hH
  simp only [VR] at hv
  rcases jh hW hb with ⟨q,cs,e',fr,r1,r2,r4,r5,_,_,_⟩ | ⟨r1,rfl⟩
  ·rcases hv with ⟨q',h5,h6⟩ | ⟨h5,_⟩
   ·rw [h5] at r1;cases r1
    refine ⟨_,q3,.val (x:=.slice (some ⟨q.r,q.o,none⟩) H M) ?_ ?_⟩
    ·simp only [execOp,ho,h6,v1,v2,aw,iJ,eK]
     rw [<-r4,kj hd hti hM hH (by omega) w];rfl
    ·simp only [VR]
     exact .inl ⟨q,_,_,h5,⟨by omega,qN⟩,λ_=>by omega,rfl⟩
   ·rw [h5] at r1;cases r1
  ·rcases hv with ⟨q,h5,h6⟩ | ⟨h5,ao,h6⟩
   ·rw [h5] at r1;cases r1
   ·simp only [bj] at m2
    have hM0:M=0:=by omega
    have hH0:H=0:=by omega
    subst hM0 hH0
    refine ⟨_,q3,.val (x:=.slice ao 0 0) ?_ (by unfold VR;exact .inr ⟨h5,⟨rfl,qN⟩,ao,rfl⟩)⟩
    simp only [execOp,ho,h6,v1,v2,aw,iJ,eK]
    rw [kj hd hti (n:=0) (M:=0) hM hH (by omega) w];rfl
 ·rename_i zz b j n _
  obtain ⟨M,hM,q2⟩:=av q1
  obtain ⟨H,hH,q3⟩:=av q2
  obtain ⟨m0,m2,m3⟩:=kT hM
  obtain ⟨h0,h2,h3⟩:=kT hH
  simp only [VR] at hv
  rcases hv with ⟨q,cp,off,h5,⟨h7,_⟩,h8,h6⟩ | ⟨h5,⟨h7,_⟩,ao,h6⟩
  ·refine ⟨_,q3,.val (x:=.slice (some ⟨q.r,off,none⟩) H M) ?_ ?_⟩
   ·simp only [execOp,ho,h6,v1,v2,aw,iJ,eK]
    rw [kj hd hti hM hH h7 w];rfl
   ·simp only [VR]
    exact .inl ⟨q,_,_,h5,⟨by omega,qN⟩,λhpos=>h8 (by omega),rfl⟩
  ·subst h7
   have hM0:M=0:=by omega
   have hH0:H=0:=by omega
   subst hM0 hH0
   refine ⟨_,q3,.val (x:=.slice ao 0 0) ?_ (by unfold VR;exact .inr ⟨h5,⟨rfl,qN⟩,ao,rfl⟩)⟩
   simp only [execOp,ho,h6,v1,v2,aw,iJ,eK]
   rw [kj hd hti (n:=0) (M:=0) hM hH (by omega) w];rfl
 ·obtain ⟨M,hM,q2⟩:=av q1
  obtain ⟨H,hH,q3⟩:=av q2
  obtain ⟨m0,m2,m3⟩:=kT hM
  obtain ⟨h0,h2,h3⟩:=kT hH
  simp only [VR] at hv
  have hM0:M=0:=by omega
  have hH0:H=0:=by omega
  subst hM0 hH0
  refine ⟨_,q3,.val (x:=.slice none 0 0) ?_ (by simp only [VR])⟩
  simp only [execOp,ho,hv,v1,v2,aw,iJ,eK]
  rw [kj hd hti (n:=0) (M:=0) hM hH (by omega) w];rfl
 ·cases q1
theorem Sr {op:BinOp} {t:TypeId} {u v:V} {r:Bool} {n:Nat} {rd:List Nat} {X Y:Value} {H:List (Nat×Blk)} {nb:Nat} (h:slN P op t u v=some r) (hl:slL H u=some (n,rd)) (hn:0<n) (hW:WR ι H nb w) (hx:VR ι u X) (hy:VR ι v Y) (p q:Operand):
  (eqGuard op t p q X Y).run P w=.ok () w/\(binOp op t X Y).run P w=.ok (.bool r) w:=by
 unfold slN at h
 split at h
 case h_2=>cases h
 simp only [VR] at hy
 subst hy
 have main:∀(A:Addr) (n c:Nat),X=.slice (some A) n c->P.underlying t=(P.underlying t)->∀e,P.underlying t=some (.slice e)->
   ((eqGuard .eql t p q X (.slice none 0 0)).run P w=.ok () w/\(binOp .eql t X (.slice none 0 0)).run P w=.ok (.bool false) w)/\
   ((eqGuard .neq t p q X (.slice none 0 0)).run P w=.ok () w/\(binOp .neq t X (.slice none 0 0)).run P w=.ok (.bool (!false)) w):=by
  rintro A n c rfl _ e hd
  exact og p q (.inl (by simp)) (.inl (by simp)) (by simp) (by rw [eu,Op.equalIn];simp [aW hd])
 have fin:∀(A:Addr) (n c:Nat),X=.slice (some A) n c->slT P op t=some r->(eqGuard op t p q X (.slice none 0 0)).run P w=.ok () w/\(binOp op t X (.slice none 0 0)).run P w=.ok (.bool r) w:=by
  intro A n c hX h
  unfold slT at h
  split at h
  case h_2=>cases h
  rename_i e hd
  obtain ⟨m1,m2⟩:=main A n c hX rfl e hd
  split at h
  ·simp only [aq] at h;subst h;exact m1
  ·simp only [aq] at h;subst h;exact m2
  ·cases h
 split at h
 ·rename_i c
  simp only [slL] at hl
  split at hl
  case h_2=>cases hl
  rename_i tr l hb
  simp only [aq,bO] at hl
  obtain ⟨rfl,_⟩:=hl
  simp only [VR] at hx
  rcases jh hW hb with ⟨q',cs,e',fr,r1,r2,r4,_⟩ | ⟨r1,rfl⟩
  ·rcases hx with ⟨q2,h5,h6⟩ | ⟨h5,_⟩
   ·exact fin _ _ _ h6 h
   ·rw [h5] at r1;cases r1
  ·simp at hn
 ·rename_i z c j m cm
  simp only [slL,aq,bO] at hl
  obtain ⟨rfl,_⟩:=hl
  simp only [VR] at hx
  rcases hx with ⟨q2,c2,o2,h5,h6,h7,h8⟩ | ⟨h5,⟨h6,_⟩,_⟩
  ·exact fin _ _ _ h8 h
  ·omega
 ·cases h
theorem Dq {t:TypeId} {x:Option Operand} (ho:o.op=.makeMap t x) (h:effK P (opd s.T) s.H f (.makeMap t x) c=some z):∃e,c e=some z/\gz P ι f o a w e:=by
 simp only [effK] at h
 split at h
 case h_2=>cases h
 split at h
 case h_2=>cases h
 refine ⟨_,h,.mk (x:=.map (some w.heap.size)) (ob:=.map #[] 0) ?_ ⟨#[],0,rfl,rfl⟩ (by simp only [VR];exact ⟨_,dk _ _ _,rfl⟩)⟩
 simp only [execOp,ho,iJ,aw]
 rfl
theorem Og {H:List (Nat×Blk)} {nb b:Nat} {w:World} (hW:WR ι H nb w) {k:IntKind} {l:List (Int×Nat)} (hl:look H b=some (.mp k l)):
  ∃q es clock,ι b=some (some q)/\w.heap[q.r]?=some (.map es clock)/\es.toList.map (λe=>(e.key,e.val))=l.map λp=>(Value.int k p.1,fnV p.2 #[]):=by
 obtain ⟨q,o,h1,h2,es,clock,rfl,h3⟩:=(hW.blk b _ hl (by simp)).real (by simp)
 exact ⟨q,es,clock,h1,h2,h3⟩
theorem J0 {α:Type} {k:IntKind} {n:Int} {c:Nat->Option α} {z:α}:∀(es:List MapEntry) (l:List (Int×Nat)) (i:Nat),es.map (λe=>(e.key,e.val))=l.map (λp=>(Value.int k p.1,fnV p.2 #[]))->mapK l n c=some z->
  ∃g j,c g=some z/\Instr.findNow (.int k) (.int k n) es i=some (some (j,fnV g #[]))
 | [],[],_,_,h=>by cases h
 | [],_::_,_,he,_=>by simp at he
 | _::_,[],_,he,_=>by simp at he
 | e::es,(m,g)::l,i,he,h=>by
  simp only [fE,KU,bO] at he
  obtain ⟨⟨h1,h2⟩,h3⟩:=he
  simp only [mapK] at h
  cases hb:(n==m) with
  | true=>
   rw [hb] at h
   exact ⟨g,i,h,by simp only [Instr.findNow,h1,Instr.sameNow,aQ,hb,h2]⟩
  | false=>
   rw [hb] at h
   obtain ⟨g',j,q1,q2⟩:=J0 es l (i+1) h3 h
   exact ⟨g',j,q1,by simp only [Instr.findNow,h1,Instr.sameNow,aQ,hb];exact q2⟩
theorem GM {t:TypeId} {m x:Operand} {ok:Bool} (ho:o.op=.lookup t m x ok) (hT:TR ι s.T a.tmps) (hW:WR ι s.H s.nb w) (h:effK P (opd s.T) s.H f (.lookup t m x ok) c=some z):
  ∃e,c e=some z/\gz P ι f o a w e:=by
 simp only [effK] at h
 split at h
 case h_2=>cases h
 rename_i b hm
 split at h
 case h_2=>cases h
 rename_i k n hx
 split at h
 case h_2=>cases h
 rename_i kt et hd
 split at h
 case h_2=>cases h
 rename_i k2 hk
 split at h
 case h_2=>cases h
 rename_i k1 l hb
 split at h
 case h_2=>cases h
 rename_i hkk
 simp only [az] at hkk
 have e1:=kG hkk.1
 have e2:=kG hkk.2
 subst e1 e2
 have vm:=bn hT hm
 have vx:=bn hT hx
 simp only [VR] at vm vx
 obtain ⟨q,h1,h2⟩:=vm
 obtain ⟨q',es,clock,h3,h4,h5⟩:=Og hW hb
 rw [h1] at h3;cases h3
 obtain ⟨g,j,h6,h7⟩:=J0 es.toList l 0 h5 h
 refine ⟨_,h6,.val (x:=fnV g #[]) ?_ (by simp only [VR];exact ⟨#[],rfl,by simp [VRs]⟩)⟩
 simp only [execOp,ho,h2,vx,aw,Instr.lookup,aW hd,ay,MapKept.run_getObj_map h4,aA,
  MapKept.run_checkKey (k:=.int k2 n) hk (by simp [MapKept.IsKey]),MapKept.run_findKey hk h7]
 rfl
theorem GW {t:TypeId} {m x y:Operand} (ho:o.op=.insert t m x y) (hT:TR ι s.T a.tmps) (hW:WR ι s.H s.nb w) (h:effK P (opd s.T) s.H f (.insert t m x y) c=some z):
  ∃e,c e=some z/\gz P ι f o a w e:=by
 simp only [effK] at h
 split at h
 case h_2=>cases h
 rename_i b hm
 split at h
 case h_2=>cases h
 rename_i k n g hx hy
 split at h
 case h_2=>cases h
 rename_i kt et hd
 split at h
 case h_2=>cases h
 rename_i k2 hk
 split at h
 case h_2=>cases h
 rename_i k1 l hb
 split at h
 case h_2=>cases h
 rename_i hkk
 simp only [az] at hkk
 obtain ⟨hk1,hk2,hall⟩:=hkk
 have e1:=kG hk1
 have e2:=kG hk2
 subst e1 e2
 have vm:=bn hT hm
 have vx:=bn hT hx
 have vy:=bn hT hy
 simp only [VR] at vm vx vy
 obtain ⟨q,h1,h2⟩:=vm
 obtain ⟨cs,h8,h9⟩:=vy
 simp only [VRs] at h9
 have hcs:cs=#[]:=by
  apply lP
  simpa using h9
 subst hcs
 obtain ⟨q',es,clock,h3,h4,h5⟩:=Og hW hb
 rw [h1] at h3;cases h3
 have hks:∀e∈es.toList,∃p∈l,e.key=.int k2 p.1:=by
  intro e he
  have:(e.key,e.val)∈l.map λp=>(Value.int k2 p.1,fnV p.2 #[]):=by rw [<-h5];exact eJ.2 ⟨e,he,rfl⟩
  obtain ⟨p,hp,hpe⟩:=eJ.1 this
  simp only [bO] at hpe
  exact ⟨p,hp,hpe.1.symm⟩
 have hkey:MapKept.IsKey (.int k2) (.int k2 n):=by simp [MapKept.IsKey]
 have hfind:Instr.findNow (.int k2) (.int k2 n) es.toList 0=some none:=by
  rcases MapKept.findNow_spec hkey es.toList 0 (λe he=>by obtain ⟨p,_,hp⟩:=hks e he;rw [hp];simp [MapKept.IsKey]) with ⟨h,_⟩ | ⟨j,e,_,hj,he⟩
  ·exact h
  ·exfalso
   obtain ⟨p,hp,hpe⟩:=hks e (gQ hj)
   rw [hpe] at he
   have:=(dF.1 hall) p hp
   simp only [Value.int.injEq,js] at he
   simp [he] at this
 refine ⟨_,h,?_⟩
 unfold gz
 refine ⟨q,h1,λ_=>⟨.map (es.push { key:=.int k2 n,val:=fnV g #[],born:=clock }) (clock+1),.skip,?_,⟨_,_,rfl,?_⟩,.skip rfl⟩⟩
 ·simp only [execOp,ho,h2,vx,h8,aw,Instr.mapUpdate,aW hd,ay,MapKept.run_getObj_map h4,MapKept.run_checkKey (k:=.int k2 n) hk hkey,MapKept.run_findKey hk hfind,MapKept.run_setObj_map _ h4,aA]
  rfl
 ·rw [Array.toList_push,D7,D7,h5]
  rfl
theorem LD (hT:TR ι s.T a.tmps) (hW:WR ι s.H s.nb w) (hf:ι f=none) (h:effK P (opd s.T) s.H f o.op c=some z):∃e,c e=some z/\gz P ι f o a w e:=by
 cases hop:o.op with
 | move x=>
  rw [hop] at h
  simp only [effK] at h
  obtain ⟨v,hv,h⟩:=av h
  exact ⟨_,h,.val (by simp only [execOp,hop,aA]) (bn hT hv)⟩
 | assign x=>
  rw [hop] at h
  simp only [effK] at h
  obtain ⟨v,hv,h⟩:=av h
  exact ⟨_,h,.val (by simp only [execOp,hop,aA]) (bn hT hv)⟩
 | pick q x y=>
  rw [hop] at h
  simp only [effK] at h
  split at h
  ·rename_i t ht
   have hv:=bn hT ht
   simp only [VR] at hv
   cases t
   ·simp only [af] at h
    obtain ⟨v,hv',h⟩:=av h
    exact ⟨_,h,.val (x:=a.eval y) (by simp [execOp,hop,hv,asBool]) (bn hT hv')⟩
   ·simp only [aj] at h
    obtain ⟨v,hv',h⟩:=av h
    exact ⟨_,h,.val (x:=a.eval x) (by simp [execOp,hop,hv,asBool]) (bn hT hv')⟩
  ·cases h
 | alloc t=>rw [hop] at h;exact JQ hop h
 | makeMap t x=>rw [hop] at h;exact Dq hop h
 | insert t m x y=>rw [hop] at h;exact GW hop hT hW h
 | lookup t m x ok=>rw [hop] at h;exact GM hop hT hW h
 | box t x=>rw [hop] at h;exact QG hop hT hf h
 | build t ps=>rw [hop] at h;exact Jg hop hT h
 | buildSlice t n ps=>rw [hop] at h;exact xR hop hT hf h
 | load t x=>rw [hop] at h;exact Nv hop hT hW h
 | makeSlice t x y=>rw [hop] at h;exact zh hop hT h
 | store t x y=>rw [hop] at h;exact IL hop hT hW h
 | nilCheck x=>
  rw [hop] at h
  simp only [effK] at h
  split at h
  ·rename_i b off hx
   have hv:=bn hT hx
   have hv':=hv
   simp only [VR] at hv
   obtain ⟨r,h5,h6⟩:=hv
   exact ⟨_,h,.val (x:=a.eval x) (by simp [execOp,hop,h6]) hv'⟩
  ·rename_i zz b jj off hx
   have hv:=bn hT hx
   have hv':=hv
   simp only [VR] at hv
   obtain ⟨r,h5,h6⟩:=hv
   exact ⟨_,h,.val (x:=a.eval x) (by simp [execOp,hop,h6]) hv'⟩
  ·rename_i g l hx
   have hv:=bn hT hx
   have hv':=hv
   simp only [VR] at hv
   obtain ⟨cs,h6,_⟩:=hv
   obtain ⟨g',b',c',h7⟩:=ye g cs
   exact ⟨_,h,.val (x:=a.eval x) (by simp [execOp,hop,h6,h7]) hv'⟩
  ·rename_i b off n m hx
   have hv:=bn hT hx
   have hv':=hv
   simp only [VR] at hv
   obtain ⟨r,cp,_,_,_,h6⟩:=hv
   exact ⟨_,h,.val (x:=a.eval x) (by simp [execOp,hop,h6]) hv'⟩
  ·rename_i t v hx
   have hv:=bn hT hx
   have hv':=hv
   simp only [VR] at hv
   obtain ⟨y,h6,_⟩:=hv
   exact ⟨_,h,.val (x:=a.eval x) (by simp [execOp,hop,h6]) hv'⟩
  ·cases h
 | binOp op t x y yt=>
  rw [hop] at h
  simp only [effK] at h
  obtain ⟨u,hu,h⟩:=av h
  obtain ⟨v,hv,h⟩:=av h
  split at h
  ·rename_i r hr
   have hx:=bn hT hu
   have hy:=bn hT hv
   obtain ⟨h3,h4⟩:=TW hr hx hy w
   exact ⟨_,h,.val (x:=.bool r) (by simp only [execOp,hop,aw,h3,h4,ay,aA]) (by simp [VR])⟩
  split at h
  ·rename_i r hr
   split at h
   case h_2=>cases h
   rename_i m rd hl
   obtain ⟨hm,h⟩:=eO h
   obtain ⟨h3,h4⟩:=Sr hr hl (aI hm) hW (bn hT hu) (bn hT hv) x y
   exact ⟨_,h,.val (x:=.bool r) (by simp only [execOp,hop,aw,h3,h4,ay,aA]) (by simp [VR])⟩
  obtain ⟨R,X,h1,h2,h3,h4⟩:=PK h (bn hT hu) (bn hT hv) x y w
  exact ⟨_,h1,.val (x:=X) (by simp only [execOp,hop,aw,h3,h4,ay,aA]) h2⟩
 | unOp op t x=>
  rw [hop] at h
  simp only [effK] at h
  obtain ⟨u,hu,h⟩:=av h
  obtain ⟨R,X,h1,h2,h3⟩:=Ur (P:=P) h (bn hT hu) w
  exact ⟨_,h1,.val (x:=X) (by simp only [execOp,hop,aw,h3,ay,aA]) h2⟩
 | convert sr d x=>rw [hop] at h;exact Eo hop hT hW h
 | next x str=>rw [hop] at h;exact NW hop hT hW h
 | makeInterface t x=>
  rw [hop] at h
  simp only [effK] at h
  obtain ⟨u,hu,h⟩:=av h
  have hv:=bn hT hu
  split at h
  ·cases h
  ·rename_i d hn hd
   refine ⟨_,h,.val (x:=.iface t (a.eval x)) ?_ (by simp only [VR];exact ⟨_,rfl,hv⟩)⟩
   simp only [execOp,hop,Instr.makeInterface,aw,aW hd,ay]
   cases d<;>first | rfl | exact absurd rfl (hn _)
  ·cases h
 | makeFunc fn first cap=>
  rw [hop] at h
  simp only [effK] at h
  split at h
  ·rename_i g hfst
   split at h
   case h_2=>cases h
   rename_i hb
   obtain ⟨l,hl,h⟩:=av h
   have hvs:=wX hT hl
   have hfirst:first=#[]:=by apply lP;simpa using hfst
   refine ⟨_,h,.val (x:=.func (.func g) #[] (cap.map a.eval)) ?_ (by simp only [VR];exact ⟨_,(Ey hb _).symm,by simpa using hvs⟩)⟩
   simp only [execOp,hop,Instr.makeFunc,hfirst,Gl,aw,aA,ay]
  ·rename_i g _ _ hfst
   split at h
   ·rename_i hcap
    obtain ⟨l,hl,h⟩:=av h
    have hvs:=wX hT hl
    have hcap':cap=#[]:=by apply lP;simpa using hcap
    refine ⟨_,h,.val (x:=.func (.func g) (first.map a.eval) #[]) ?_ (by simp only [VR];exact ⟨_,(LU g _).symm,by simpa using hvs⟩)⟩
    simp only [execOp,hop,Instr.makeFunc,hcap',Gl,aw,aA,ay]
   ·cases h
  ·cases h
 | slice t x lo hi mx=>
  rw [hop] at h
  cases mx with
  | none=>exact K3 hop hT hW h
  | some m=>exact Hh hop hT hW h
 | fieldAddr t x i=>rw [hop] at h;exact za hop hT h
 | field t x i=>rw [hop] at h;exact Ic hop hT h
 | indexAddr t x i=>rw [hop] at h;exact AA hop hT hW h
 | index t x i=>rw [hop] at h;exact Iu hop hT h
 | range t x=>rw [hop] at h;exact JD hop hT h
 | extract x i=>
  rw [hop] at h
  simp only [effK] at h
  split at h
  ·rename_i l hx
   obtain ⟨v,hv,h⟩:=av h
   have hl:=bn hT hx
   simp only [VR] at hl
   obtain ⟨cs,h6,hcs⟩:=hl
   obtain ⟨y,hy,hvy⟩:=hcs.get hv
   have hy':cs[i]?=some y:=by simpa using hy
   exact ⟨_,h,.val (x:=y) (by simp [execOp,hop,h6,Instr.extract,hy']) hvy⟩
  ·cases h
 | typeAssert x xt at_ ok=>
  rw [hop] at h
  simp only [effK] at h
  split at h
  case h_2=>cases h
  rename_i t v hx
  have hv:=bn hT hx
  simp only [VR] at hv
  obtain ⟨y,h6,hy⟩:=hv
  split at h
  ·cases h
  ·rename_i d hn hd
   split at h
   case h_2=>cases h
   rename_i ht
   have ht:=bE ht
   subst ht
   cases ok with
   | true=>
    refine ⟨_,h,.val (x:=.tuple #[y,.bool true]) ?_ (by simp only [VR,VRs];exact ⟨_,rfl,y,[.bool true],rfl,hy,_,[],rfl,rfl,rfl⟩)⟩
    simp only [execOp,hop,h6,Instr.typeAssert,aw,aW hd,ay]
    cases d<;>first | simp | exact absurd rfl (hn _)
   | false=>
    refine ⟨_,h,.val (x:=y) ?_ hy⟩
    simp only [execOp,hop,h6,Instr.typeAssert,aw,aW hd,ay]
    cases d<;>first | simp | exact absurd rfl (hn _)
  ·cases h
 | call cl=>rw [hop] at h;exact M5 hop hT hW h
 | _=>rw [hop] at h;simp [effK] at h
end ops
end Go.Abs
