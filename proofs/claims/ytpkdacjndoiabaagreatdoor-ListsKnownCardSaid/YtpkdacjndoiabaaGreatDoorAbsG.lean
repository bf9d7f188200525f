/- The abstract effect of an operation is what the model's own operation does: all operations but calls of Go functions.
   Conditions: none; generic over the program. -/
import Derived.Test.YtpkdacjndoiabaaGreatDoorAbsF
set_option linter.unusedSimpArgs false
namespace Go.Abs
variable {P:Program}
theorem pE (o j:Nat):padd o j=o+j:=by
 unfold padd
 cases h:Nat.beq o 0 with
 | true=>have:o=0:=bE h;simp [this]
 | false=>rfl
theorem xy (j s:Nat):pmul j s=j*s:=by
 unfold pmul
 cases h:Nat.beq s 1 with
 | true=>have:s=1:=bE h;simp [this]
 | false=>rfl
theorem nO {n j:Nat} {i:Int} (h:ix n i=some j):0<=i/\i<n/\j=i.toNat:=by
 unfold ix at h
 split at h
 ·rename_i hc;simp only [aq] at h;exact ⟨hc.1,hc.2,h.symm⟩
 ·cases h
theorem kT {n j:Nat} {i:Int} (h:bx n i=some j):0<=i/\i<=n/\j=i.toNat:=by
 unfold bx at h
 split at h
 ·rename_i hc;simp only [aq] at h;exact ⟨hc.1,hc.2,h.symm⟩
 ·cases h
theorem oy {ι:Inj} {T:List (Nat×Option V)} {a:Act} (ht:TR ι T a.tmps) {x:Option Operand} {l:Option Int} (h:qb (opd T) x=some l):
  (l=none/\x.map a.eval=none)\/∃k n,l=some n/\x.map a.eval=some (.int k n):=by
 unfold qb at h
 split at h
 ·simp only [aq] at h;subst h;exact .inl ⟨rfl,rfl⟩
 ·split at h
  ·rename_i k n hv
   simp only [aq] at h;subst h
   have:=bn ht hv
   simp only [VR] at this
   exact .inr ⟨k,n,rfl,by simp [this]⟩
  ·cases h
theorem wg {α:Type} {ι:Inj} {T:List (Nat×Option V)} {a:Act} (ht:TR ι T a.tmps) {lo hi:Option Operand} {l h:Option Int} (hl:qb (opd T) lo=some l)
  (hh:qb (opd T) hi=some h) {n len:Nat} {isSlice:Bool} {c:Nat->Nat->Option α} {z:α} (hz:(hiK n len h λh=>loK h l λl=>c h l)=some z):
  ∃H L,c H L=some z/\(h=none\/H<=n)/\(h=none->H=len)/\(h≠none->H<=n)/\L<=H/\(l=none->L=0)/\
   ∀w,(Instr.sliceBounds isSlice len n (lo.map a.eval) (hi.map a.eval) none).run P w=.ok (L,H,n) w:=by
 have hlo:∀{H:Nat},loK H l (c H)=some z->∃L,c H L=some z/\L<=H/\(l=none->L=0)/\
   ∀w,(match lo.map a.eval with | some v=>Instr.sliceBound v H .sliceB | none=>pure 0).run P w=.ok L w:=by
  intro H hz
  rcases oy ht hl with ⟨rfl,h1⟩ | ⟨k,m,rfl,h1⟩
  ·exact ⟨0,hz,sj _,λ_=>rfl,λw=>by rw [h1];rfl⟩
  ·simp only [loK] at hz
   obtain ⟨L,h2,h3⟩:=av hz
   obtain ⟨g0,g1,rfl⟩:=kT h2
   exact ⟨_,h3,by omega,by simp,λw=>by rw [h1];exact run_sliceBound w k m H .sliceB g0 g1⟩
 rcases oy ht hh with ⟨rfl,h1⟩ | ⟨k,m,rfl,h1⟩
 ·simp only [hiK] at hz
  obtain ⟨L,h2,h3,h4,h5⟩:=hlo hz
  refine ⟨len,L,h2,.inl rfl,λ_=>rfl,by simp,h3,h4,λw=>?_⟩
  have h5:=h5 w
  rw [h1]
  simp only [Instr.sliceBounds,aw,aA,ay,wE,bP,aE]
  cases hlm:lo.map a.eval with
  | none=>rw [hlm] at h5;simp only [aA,wo,xq] at h5;simp [h5]
  | some v=>rw [hlm] at h5;simp only [] at h5;simp [h5]
 ·simp only [hiK] at hz
  obtain ⟨H,h2,h3⟩:=av hz
  obtain ⟨g0,g1,rfl⟩:=kT h2
  obtain ⟨L,h4,h5,h6,h7⟩:=hlo h3
  refine ⟨_,L,h4,.inr (by omega),by simp,λ_=>by omega,h5,h6,λw=>?_⟩
  have h7:=h7 w
  rw [h1]
  have hb:=run_sliceBound (P:=P) w k m n (if isSlice=true then .sliceAcap else .sliceAlen) g0 g1
  simp only [Instr.sliceBounds,aw,aA,ay,wE,bP,aE,hb]
  cases hlm:lo.map a.eval with
  | none=>rw [hlm] at h7;simp only [aA,wo,xq] at h7;simp [h7]
  | some v=>rw [hlm] at h7;simp only [] at h7;simp [h7]
section ops
variable {α:Type} {ι:Inj} {s:St} {a:Act} {w:World} {f:Nat} {o:Oper} {c:Eff->Option α} {z:α}
theorem Nv {t:TypeId} {x:Operand} (ho:o.op=.load t x) (hT:TR ι s.T a.tmps) (hW:WR ι s.H s.nb w) (h:effK P (opd s.T) s.H f (.load t x) c=some z):
  ∃e,c e=some z/\gz P ι f o a w e:=by
 simp only [effK] at h
 split at h
 ·rename_i b off hx
  split at h
  ·rename_i blk hb
   obtain ⟨v,X,r,h1,h2,h3,h4⟩:=Gx hW hb h
   have hv:=bn hT hx
   simp only [VR] at hv
   obtain ⟨r',h5,h6⟩:=hv
   rw [h2] at h5;cases h5
   exact ⟨_,h1,.val (by simp only [execOp,ho,h6,aw,h3,ay,aA]) h4⟩
  ·cases h
 ·rename_i zz b j off hx
  split at h
  case h_2=>cases h
  rename_i tr l hb
  split at h
  case h_2=>cases h
  rename_i hz
  have hz:=bE hz
  subst hz
  obtain ⟨xr,hj,h⟩:=av h
  have hv:=bn hT hx
  simp only [VR] at hv
  obtain ⟨q,h5,h6⟩:=hv
  rcases jh hW hb with ⟨q',cs,e,fr,g1,g2,g3,g4,g5,g6,g7⟩ | ⟨g1,_⟩
  ·rw [h5] at g1;cases g1
   obtain ⟨r1,r2⟩:=OL g6 hj
   have hle:l.length*tr.length<=q.k*tr.length:=nX _ (by omega)
   rw [<-gO] at h6
   obtain ⟨v,X,h1,h3,h4⟩:=NA (o:=off) g2 (by rw [kv,r1];exact (nu ι tr xr _).2 rfl) (by rw [kv];omega) h
   exact ⟨_,h1,.val (by simp only [execOp,ho,h6,aw,h3,ay,aA]) h4⟩
  ·rw [h5] at g1;cases g1
 ·cases h
theorem IL {t:TypeId} {x y:Operand} (ho:o.op=.store t x y) (hT:TR ι s.T a.tmps) (hW:WR ι s.H s.nb w) (h:effK P (opd s.T) s.H f (.store t x y) c=some z):
  ∃e,c e=some z/\gz P ι f o a w e:=by
 simp only [effK] at h
 split at h
 ·rename_i b off hx
  obtain ⟨v,hy,h⟩:=av h
  split at h
  ·rename_i blk hb
   obtain ⟨blk',obj,r,h1,h2,h3,h4⟩:=KW hW hb (bn hT hy) h
   have hv:=bn hT hx
   simp only [VR] at hv
   obtain ⟨r',h5,h6⟩:=hv
   rw [h2] at h5;cases h5
   refine ⟨_,h1,?_⟩
   unfold gz
   exact ⟨r,h2,λ_=>⟨obj,.skip,by simp only [execOp,ho,h6,aw,h3,ay,aA],h4,.skip rfl⟩⟩
  ·cases h
 ·rename_i zz b j off hx
  obtain ⟨v,hy,hh⟩:=av h
  clear h
  have h:=hh
  clear hh
  split at h
  case h_2=>cases h
  rename_i tr l hb
  split at h
  case h_2=>cases h
  rename_i hz
  have hz:=bE hz
  subst hz
  obtain ⟨xr,hj,h⟩:=av h
  have hv:=bn hT hx
  simp only [VR] at hv
  obtain ⟨q,h5,h6⟩:=hv
  rcases jh hW hb with ⟨q',cs,e,fr,g1,g2,g3,g4,g5,g6,g7⟩ | ⟨g1,_⟩
  ·rw [h5] at g1;cases g1
   obtain ⟨r1,r2⟩:=OL g6 hj
   have hle:l.length*tr.length<=q.k*tr.length:=nX _ (by omega)
   rw [<-gO] at h6
   obtain ⟨l',X,h1,h2,h3,h4⟩:=Jt (o:=off) (fr:=fr) g2 (by rw [kv,r1];exact (nu ι tr xr _).2 rfl) (by rw [kv];omega) (bn hT hy) h
   simp only at h1
   obtain ⟨x',hx',h1⟩:=av h1
   have hX:X=vals tr x':=(nu ι tr x' X).1 (by rw [<-vp hx'];exact h3)
   subst hX
   have hjl:j<l.length:=by
    rcases aG j l.length with h' | h'
    ·exact h'
    ·rw [gU h'] at hj;cases hj
   have hsz:(splA cs (q.o+j*tr.length) (vals tr x')).size=cs.size:=vZ (by rw [jL];omega)
   refine ⟨_,h1,?_⟩
   unfold gz
   refine ⟨q,h5,λhz=>?_⟩
   have hnf:=g7.resolve_left (by rw [hz];simp)
   refine ⟨_,.skip,by simp only [execOp,ho,h6,aw,h4 hnf,ay,aA];rfl,⟨_,e,fr,rfl,by rw [Ei];exact g3,g4,by rw [hsz];exact g5,?_,.inr (by rw [hsz];exact hnf)⟩,.skip rfl⟩
   exact LL (by omega) g6 x' hjl
  ·rw [h5] at g1;cases g1
 ·cases h
theorem JQ {t:TypeId} (ho:o.op=.alloc t) (h:effK P (opd s.T) s.H f (.alloc t) c=some z):∃e,c e=some z/\gz P ι f o a w e:=by
 simp only [effK] at h
 obtain ⟨v,hv,h⟩:=av h
 obtain ⟨x,i,h1,h2,h3,h4⟩:=uZ (upd ι f (some (Rf.of w.heap.size (0) (0)))) hv
 refine ⟨_,h,.mk (x:=.pointer (some ⟨w.heap.size,0,none⟩)) (ob:=.cells x.cells t) ?_ (E9 (Qf h3) t) ?_⟩
 ·simp only [execOp,ho,Instr.alloc,aw,h4,ay,newVar,newRow,xF,aA,xI]
 ·simp only [VR];exact ⟨_,dk _ _ _,rfl⟩
theorem QG {t:TypeId} {x:Operand} (ho:o.op=.box t x) (hT:TR ι s.T a.tmps) (hf:ι f=none) (h:effK P (opd s.T) s.H f (.box t x) c=some z):
  ∃e,c e=some z/\gz P ι f o a w e:=by
 simp only [effK] at h
 obtain ⟨v,hv,h⟩:=av h
 have hv':=bn hT hv
 refine ⟨_,h,.mk (x:=.pointer (some ⟨w.heap.size,0,none⟩)) (ob:=.cells (a.eval x).cells t) ?_ (E9 (VR.mono (oN hf) _ _ hv') t) ?_⟩
 ·simp only [execOp,ho,Instr.box,aw,ay,newVar,newRow,xF,aA,xI]
 ·simp only [VR];exact ⟨_,dk _ _ _,rfl⟩
theorem Ht (fs:List Field) (h:(fs.all λfd=>Nat.blt 0 (P.cellsOf fd.type))=true) (w:World):
  (fs.mapM λ(f:Field)=>do pure (f.offset,<-sizeOf f.type)).run P w=.ok (BU P fs) w:=by
 induction fs with
 | nil=>rfl
 | cons fd fs ih=>
  simp only [oG,az] at h
  obtain ⟨i,hi⟩:=bU h.1
  have ih:=ih h.2
  simp only [C0,aw,fV hi,ay,aA,ih]
  rfl
theorem Jg {t:TypeId} {ps:Array (Nat×Operand)} (ho:o.op=.build t ps) (hT:TR ι s.T a.tmps) (h:effK P (opd s.T) s.H f (.build t ps) c=some z):
  ∃e,c e=some z/\gz P ι f o a w e:=by
 simp only [effK] at h
 obtain ⟨zv,hzv,h⟩:=av h
 obtain ⟨parts,hp,h⟩:=av h
 obtain ⟨x,i,h1,h2,h3,h4⟩:=uZ ι hzv
 obtain ⟨p1,p2⟩:=ua hT _ _ hp
 have hzc:=mT h3
 have hps:(ps.map λ(i,x)=>(i,a.eval x)).toList=ps.toList.map λ(i,x)=>(i,a.eval x):=by simp
 split at h
 ·rename_i fs hd
  split at h
  ·rename_i hall
   obtain ⟨l,hl,h⟩:=av h
   obtain ⟨ds,hfill,hds⟩:=vu _ _ (ps.toList.map λ(i,x)=>(i,a.eval x)) _ _ _ hzc p1 (by simp [VRs]) p2 hl
   refine ⟨_,h,.val (x:=.agg ds) ?_ (by simp only [VR];exact ⟨ds,rfl,hds⟩)⟩
   have hm:(fs.mapM λ(f:Field)=>do pure (f.offset,<-sizeOf f.type)).run P w=.ok (BU P fs.toList).toArray w:=by
    rw [Of]
    simp only [Sem.run_map,Ht fs.toList hall,ay]
   have hpl:(λ(i:Nat)=>(BU P fs.toList).toArray[i]?)=λ(i:Nat)=>(BU P fs.toList)[i]?:=by
    funext i;simp
   simp only [execOp,ho,Instr.build,aw,h4,ay,aW hd,hm,hpl,hps,hfill,aA]
  ·cases h
 ·rename_i n e hd
  split at h
  ·rename_i hpos
   obtain ⟨i',hi'⟩:=bU hpos
   obtain ⟨l,hl,h⟩:=av h
   obtain ⟨ds,hfill,hds⟩:=vu _ _ (ps.toList.map λ(i,x)=>(i,a.eval x)) _ _ _ hzc p1 (by simp [VRs]) p2 hl
   refine ⟨_,h,.val (x:=.agg ds) ?_ (pB hds)⟩
   simp only [execOp,ho,Instr.build,aw,h4,ay,aW hd,fV hi',hps,hfill,aA]
  ·cases h
 ·cases h
theorem vW (l:List V):∀n,(zI l n).length=n*l.length
 | 0=>by simp [zI]
 | n+1=>by simp [zI,vW l n,gL,oS]
theorem LV {ι:Inj} {l:List V} {xs:Array Value} (h:VRs ι l xs.toList) (hl:0<l.length):∀n,VRs ι (zI l n) ((Array.range (n*l.length)).map (xs[·%xs.size]!)).toList:=by
 have hsz:xs.size=l.length:=by simpa using h.length
 intro n
 refine VRs.of_get (by simp [vW]) λj v x hj hx=>?_
 have key:∀n j v,(zI l n)[j]?=some v->l[j%l.length]?=some v:=by
  intro n
  induction n with
  | zero=>intro j v h;simp [zI] at h
  | succ n ih=>
   intro j v h
   simp only [zI] at h
   by_cases hlt:j<l.length
   ·rw [nh hlt] at h
    rw [qK hlt];exact h
   ·rw [pO (by omega)] at h
    have:=ih _ _ h
    rwa [<-Nat.mod_eq_sub_mod (by omega)] at this
 have hv:=key n j v hj
 obtain ⟨y,hy,hvy⟩:=h.get hv
 have hjn:j<n*l.length:=by
  rcases aG j (n*l.length) with h' | h'
  ·exact h'
  ·rw [gU (by rw [vW];omega)] at hj;cases hj
 have hmod:j%l.length<xs.size:=by rw [hsz];exact zO _ hl
 have:x=xs[j%xs.size]! := by
  simp [hjn] at hx
  exact hx.symm
 rw [this,hsz]
 have hy':xs[j%l.length]?=some y:=by simpa using hy
 have:xs[j%l.length]! = y:=by
  rw [getElem!_def,hy']
 rw [this];exact hvy
theorem xP {t e:TypeId} {n:Nat} {zc:Value} {i:TypeInfo} {ps:Array (Nat×Value)} {ds:Array Value} {w:World} (hd:P.underlying t=some (.slice e)) (hi:P.info? e=some i)
  (hle:n*P.cellsOf e<=1000) (hz:∀w,(zeroValue e).run P w=.ok zc w)
  (hfill:Instr.fill (λi=>some (i*P.cellsOf e,P.cellsOf e)) ((Array.range (n*P.cellsOf e)).map (zc.cells[·%zc.cells.size]!)) ps.toList=some ds):
  (Instr.buildSlice t n ps).run P w=.ok (.slice (some ⟨w.heap.size,0,none⟩) n n) (w.alloc (.cells ds e)):=by
 have hno:¬(n*P.cellsOf e>2 ^ 24):=Nat.not_lt.2 (qC hle (by decide))
 unfold Instr.buildSlice
 simp only [aw,ay,aW hd,fV hi]
 rw [ab hno]
 by_cases h0:n*P.cellsOf e=0
 ·rw [ae h0]
  have hr0:Array.range 0=#[]:=rfl
  rw [h0] at hfill ⊢
  rw [hr0,Gl] at hfill
  simp only [aw,aA,ay,hr0,Gl,hfill,newRow,xF,xI]
 ·rw [ab h0]
  simp only [aw,hz,aA,ay,hfill,newRow,xF,xI]
theorem xR {t:TypeId} {n:Nat} {ps:Array (Nat×Operand)} (ho:o.op=.buildSlice t n ps) (hT:TR ι s.T a.tmps) (hf:ι f=none) (h:effK P (opd s.T) s.H f (.buildSlice t n ps) c=some z):
  ∃e,c e=some z/\gz P ι f o a w e:=by
 simp only [effK] at h
 split at h
 ·rename_i e hd
  split at h
  ·rename_i hb
   simp only [az] at hb
   obtain ⟨hle,hpos⟩:=hb
   obtain ⟨i',hi'⟩:=bU hpos
   obtain ⟨zv,hzv,h⟩:=av h
   obtain ⟨parts,hp,h⟩:=av h
   split at h
   ·rename_i hlen
    have hlen:=bE hlen
    obtain ⟨l,hl,h⟩:=av h
    obtain ⟨x,i,h1,h2,h3,h4⟩:=uZ ι hzv
    obtain ⟨p1,p2⟩:=ua hT _ _ hp
    have hzc:=mT h3
    have hps:(ps.map λ(i,x)=>(i,a.eval x)).toList=ps.toList.map λ(i,x)=>(i,a.eval x):=by simp
    have hpos':0<P.cellsOf e:=aI hpos
    have hz2:=LV hzc (by omega) n
    rw [hlen] at hz2
    obtain ⟨ds,hfill,hds⟩:=vu _ _ (ps.toList.map λ(i,x)=>(i,a.eval x)) _ _ _ hz2 p1 (by simp [VRs]) p2 hl
    rw [<-hps] at hfill
    have hrun:=xP (w:=w) hd hi' (aI hle) h4 hfill
    split at h
    ·rename_i tr htr
     split at h
     case h_2=>cases h
     rename_i hb2
     simp only [az,iV] at hb2
     obtain ⟨e1,e2⟩:=hb2
     obtain ⟨m,hm,h⟩:=av h
     obtain ⟨m1,m2⟩:=BO hm (by rw [e2,e1])
     have hdsl:ds.size=n*tr.length:=by rw [e1,<-e2];simpa using hds.length
     rw [m2] at hds
     refine ⟨_,h,.mkR (d:=w.drawn) (q:=(Rf.of w.heap.size (n) (n))) (x:=.slice (some ⟨w.heap.size,0,none⟩) n n) (ob:=.cells ds e) ?_ rfl rfl
      ⟨ds,e,(0,0),rfl,m1,aV _,by rw [hdsl];simp,?_,.inr (rX _)⟩ ?_⟩
     ·simp only [execOp,ho,aw,hrun,ay,aA]
     ·rw [<-Fp ι m _ hds,m1]
      simp only [gy]
      exact iP (by rw [JP,hdsl];exact aV _)
     ·simp only [VR];exact .inl ⟨_,dk _ _ _,rfl⟩
    ·refine ⟨_,h,.mk (x:=.slice (some ⟨w.heap.size,0,none⟩) n n) (ob:=.cells ds e) ?_ ⟨ds,e,(0,0),rfl,VRs.mono (oN hf) _ _ hds,rX _⟩ ?_⟩
     ·simp only [execOp,ho,aw,hrun,ay,aA]
     ·simp only [VR];exact ⟨_,n,dk _ _ _,λm hm=>by simpa using hm,aV _,rfl⟩
   ·cases h
  ·cases h
 ·cases h
theorem JD {t:TypeId} {x:Operand} (ho:o.op=.range t x) (hT:TR ι s.T a.tmps) (h:effK P (opd s.T) s.H f (.range t x) c=some z):
  ∃e,c e=some z/\gz P ι f o a w e:=by
 simp only [effK] at h
 split at h
 ·rename_i hd
  split at h
  ·rename_i l hx
   have hv:=bn hT hx
   simp only [VR] at hv
   refine ⟨_,h,.mk (x:=.pointer (some ⟨w.heap.size,0,none⟩)) (ob:=.stringIter ⟨l.toArray⟩ 0) ?_ rfl (by simp only [VR];exact ⟨_,dk _ _ _,rfl⟩)⟩
   simp only [execOp,ho,Instr.range,aw,ay,aW hd,hv,aA,xF,xI]
  ·cases h
 ·cases h
end ops
end Go.Abs
