/- The abstract effect of an operation is what the model's own operation does: all operations but calls of Go functions.
   Conditions: none; generic over the program. -/
import Derived.Test.YtplhepcdmkbioaaGreatDoorAbsF
namespace Go.Abs
variable {P:Program}
theorem jY (o j:Nat):padd o j=o+j:=by
 unfold padd
 cases h:Nat.beq o 0 with
 | true=>have:o=0:=Nat.eq_of_beq_eq_true h;simp [this]
 | false=>rfl
theorem pt (j s:Nat):pmul j s=j*s:=by
 unfold pmul
 cases h:Nat.beq s 1 with
 | true=>have:s=1:=Nat.eq_of_beq_eq_true h;simp [this]
 | false=>rfl
theorem ji {n j:Nat} {i:Int} (h:ix n i=some j):0<=i/\i<n/\j=i.toNat:=by
 unfold ix at h
 split at h
 ·rename_i hc;simp only [Option.some.injEq] at h;exact ⟨hc.1,hc.2,h.symm⟩
 ·cases h
theorem gM {n j:Nat} {i:Int} (h:bx n i=some j):0<=i/\i<=n/\j=i.toNat:=by
 unfold bx at h
 split at h
 ·rename_i hc;simp only [Option.some.injEq] at h;exact ⟨hc.1,hc.2,h.symm⟩
 ·cases h
theorem jE {ι:Inj} {T:List (Nat×Option V)} {a:Act} (ht:TR ι T a.tmps) {x:Option Operand} {l:Option Int} (h:kK (opd T) x=some l):
  (l=none/\x.map a.eval=none)\/∃k n,l=some n/\x.map a.eval=some (.int k n):=by
 unfold kK at h
 split at h
 ·simp only [Option.some.injEq] at h;subst h;exact .inl ⟨rfl,rfl⟩
 ·split at h
  ·rename_i k n hv
   simp only [Option.some.injEq] at h;subst h
   have:=aD ht hv
   simp only [VR] at this
   exact .inr ⟨k,n,rfl,by simp [this]⟩
  ·cases h
theorem pM {α:Type} {ι:Inj} {T:List (Nat×Option V)} {a:Act} (ht:TR ι T a.tmps) {lo hi:Option Operand} {l h:Option Int} (hl:kK (opd T) lo=some l)
  (hh:kK (opd T) hi=some h) {n len:Nat} {isSlice:Bool} {c:Nat->Nat->Option α} {z:α} (hz:(hiK n len h λh=>loK h l λl=>c h l)=some z):
  ∃H L,c H L=some z/\(h=none\/H<=n)/\(h=none->H=len)/\(h≠none->H<=n)/\L<=H/\(l=none->L=0)/\
   ∀w,(Instr.sliceBounds isSlice len n (lo.map a.eval) (hi.map a.eval) none).run P w=.ok (L,H,n) w:=by
 have hlo:∀{H:Nat},loK H l (c H)=some z->∃L,c H L=some z/\L<=H/\(l=none->L=0)/\
   ∀w,(match lo.map a.eval with | some v=>Instr.sliceBound v H .sliceB | none=>pure 0).run P w=.ok L w:=by
  intro H hz
  rcases jE ht hl with ⟨rfl,h1⟩ | ⟨k,m,rfl,h1⟩
  ·exact ⟨0,hz,Nat.zero_le _,λ_=>rfl,λw=>by rw [h1];rfl⟩
  ·simp only [loK] at hz
   obtain ⟨L,h2,h3⟩:=af hz
   obtain ⟨g0,g1,rfl⟩:=gM h2
   exact ⟨_,h3,by omega,by simp,λw=>by rw [h1];exact run_sliceBound w k m H .sliceB g0 g1⟩
 rcases jE ht hh with ⟨rfl,h1⟩ | ⟨k,m,rfl,h1⟩
 ·simp only [hiK] at hz
  obtain ⟨L,h2,h3,h4,h5⟩:=hlo hz
  refine ⟨len,L,h2,.inl rfl,λ_=>rfl,by simp,h3,h4,λw=>?_⟩
  have h5:=h5 w
  rw [h1]
  simp only [Instr.sliceBounds,Sem.run_bind,Sem.run_pure,Result.andThen_ok,Option.isSome_none,Bool.false_eq_true,if_false]
  cases hlm:lo.map a.eval with
  | none=>rw [hlm] at h5;simp only [Sem.run_pure,Result.ok.injEq,and_true] at h5;simp [h5]
  | some v=>rw [hlm] at h5;simp only [] at h5;simp [h5]
 ·simp only [hiK] at hz
  obtain ⟨H,h2,h3⟩:=af hz
  obtain ⟨g0,g1,rfl⟩:=gM h2
  obtain ⟨L,h4,h5,h6,h7⟩:=hlo h3
  refine ⟨_,L,h4,.inr (by omega),by simp,λ_=>by omega,h5,h6,λw=>?_⟩
  have h7:=h7 w
  rw [h1]
  have hb:=run_sliceBound (P:=P) w k m n (if isSlice=true then .sliceAcap else .sliceAlen) g0 g1
  simp only [Instr.sliceBounds,Sem.run_bind,Sem.run_pure,Result.andThen_ok,Option.isSome_none,Bool.false_eq_true,if_false,hb]
  cases hlm:lo.map a.eval with
  | none=>rw [hlm] at h7;simp only [Sem.run_pure,Result.ok.injEq,and_true] at h7;simp [h7]
  | some v=>rw [hlm] at h7;simp only [] at h7;simp [h7]
section ops
variable {α:Type} {ι:Inj} {s:St} {a:Act} {w:World} {f:Nat} {o:Oper} {c:Eff->Option α} {z:α}
theorem BC {t:TypeId} {x:Operand} (ho:o.op=.load t x) (hT:TR ι s.T a.tmps) (hW:WR ι s.H s.nb w) (h:effK P (opd s.T) s.H f (.load t x) c=some z):
  ∃e,c e=some z/\dD P ι f o a w e:=by
 simp only [effK] at h
 split at h
 ·rename_i b off hx
  split at h
  ·rename_i blk hb
   obtain ⟨v,X,r,h1,h2,h3,h4⟩:=vW hW hb h
   have hv:=aD hT hx
   simp only [VR] at hv
   obtain ⟨r',h5,h6⟩:=hv
   rw [h2] at h5;cases h5
   exact ⟨_,h1,.val (by simp only [execOp,ho,h6,Sem.run_bind,h3,Result.andThen_ok,Sem.run_pure]) h4⟩
  ·cases h
 ·rename_i zz b j off hx
  split at h
  case h_2=>cases h
  rename_i tr l hb
  split at h
  case h_2=>cases h
  rename_i hz
  have hz:=Nat.eq_of_beq_eq_true hz
  subst hz
  obtain ⟨xr,hj,h⟩:=af h
  have hv:=aD hT hx
  simp only [VR] at hv
  obtain ⟨q,h5,h6⟩:=hv
  rcases eU hW hb with ⟨q',cs,e,fr,g1,g2,g3,g4,g5,g6,g7⟩ | ⟨g1,_⟩
  ·rw [h5] at g1;cases g1
   obtain ⟨r1,r2⟩:=CM g6 hj
   have hle:l.length*tr.length<=q.k*tr.length:=Nat.mul_le_mul_right _ (by omega)
   rw [<-Nat.add_assoc] at h6
   obtain ⟨v,X,h1,h3,h4⟩:=BH (o:=off) g2 (by rw [f6,r1];exact (ic ι tr xr _).2 rfl) (by rw [f6];omega) h
   exact ⟨_,h1,.val (by simp only [execOp,ho,h6,Sem.run_bind,h3,Result.andThen_ok,Sem.run_pure]) h4⟩
  ·rw [h5] at g1;cases g1
 ·cases h
theorem xT {t:TypeId} {x y:Operand} (ho:o.op=.store t x y) (hT:TR ι s.T a.tmps) (hW:WR ι s.H s.nb w) (h:effK P (opd s.T) s.H f (.store t x y) c=some z):
  ∃e,c e=some z/\dD P ι f o a w e:=by
 simp only [effK] at h
 split at h
 ·rename_i b off hx
  obtain ⟨v,hy,h⟩:=af h
  split at h
  ·rename_i blk hb
   obtain ⟨blk',obj,r,h1,h2,h3,h4⟩:=y4 hW hb (aD hT hy) h
   have hv:=aD hT hx
   simp only [VR] at hv
   obtain ⟨r',h5,h6⟩:=hv
   rw [h2] at h5;cases h5
   refine ⟨_,h1,?_⟩
   unfold dD
   exact ⟨r,h2,λ_=>⟨obj,.skip,by simp only [execOp,ho,h6,Sem.run_bind,h3,Result.andThen_ok,Sem.run_pure],h4,.skip rfl⟩⟩
  ·cases h
 ·rename_i zz b j off hx
  obtain ⟨v,hy,hh⟩:=af h
  clear h
  have h:=hh
  clear hh
  split at h
  case h_2=>cases h
  rename_i tr l hb
  split at h
  case h_2=>cases h
  rename_i hz
  have hz:=Nat.eq_of_beq_eq_true hz
  subst hz
  obtain ⟨xr,hj,h⟩:=af h
  have hv:=aD hT hx
  simp only [VR] at hv
  obtain ⟨q,h5,h6⟩:=hv
  rcases eU hW hb with ⟨q',cs,e,fr,g1,g2,g3,g4,g5,g6,g7⟩ | ⟨g1,_⟩
  ·rw [h5] at g1;cases g1
   obtain ⟨r1,r2⟩:=CM g6 hj
   have hle:l.length*tr.length<=q.k*tr.length:=Nat.mul_le_mul_right _ (by omega)
   rw [<-Nat.add_assoc] at h6
   obtain ⟨l',X,h1,h2,h3,h4⟩:=yd (o:=off) (fr:=fr) g2 (by rw [f6,r1];exact (ic ι tr xr _).2 rfl) (by rw [f6];omega) (aD hT hy) h
   simp only at h1
   obtain ⟨x',hx',h1⟩:=af h1
   have hX:X=vals tr x':=(ic ι tr x' X).1 (by rw [<-nT hx'];exact h3)
   subst hX
   have hjl:j<l.length:=by
    rcases Nat.lt_or_ge j l.length with h' | h'
    ·exact h'
    ·rw [List.getElem?_eq_none h'] at hj;cases hj
   have hsz:(splA cs (q.o+j*tr.length) (vals tr x')).size=cs.size:=oT (by rw [fG];omega)
   refine ⟨_,h1,?_⟩
   unfold dD
   refine ⟨q,h5,λhz=>?_⟩
   have hnf:=g7.resolve_left (by rw [hz];simp)
   refine ⟨_,.skip,by simp only [execOp,ho,h6,Sem.run_bind,h4 hnf,Result.andThen_ok,Sem.run_pure];rfl,⟨_,e,fr,rfl,by rw [List.length_set];exact g3,g4,by rw [hsz];exact g5,?_,.inr (by rw [hsz];exact hnf)⟩,.skip rfl⟩
   exact Az (by omega) g6 x' hjl
  ·rw [h5] at g1;cases g1
 ·cases h
theorem xB {t:TypeId} (ho:o.op=.alloc t) (h:effK P (opd s.T) s.H f (.alloc t) c=some z):∃e,c e=some z/\dD P ι f o a w e:=by
 simp only [effK] at h
 obtain ⟨v,hv,h⟩:=af h
 obtain ⟨x,i,h1,h2,h3,h4⟩:=nY (upd ι f (some (Rf.of w.heap.size (0) (0)))) hv
 refine ⟨_,h,.mk (x:=.pointer (some ⟨w.heap.size,0,none⟩)) (ob:=.cells x.cells t) ?_ (vA (C7 h3) t) ?_⟩
 ·simp only [execOp,ho,Instr.alloc,Sem.run_bind,h4,Result.andThen_ok,newVar,newRow,run_newObj,Sem.run_pure,World.alloc_eq]
 ·simp only [VR];exact ⟨_,bP _ _ _,rfl⟩
theorem Dk {t:TypeId} {x:Operand} (ho:o.op=.box t x) (hT:TR ι s.T a.tmps) (hf:ι f=none) (h:effK P (opd s.T) s.H f (.box t x) c=some z):
  ∃e,c e=some z/\dD P ι f o a w e:=by
 simp only [effK] at h
 obtain ⟨v,hv,h⟩:=af h
 have hv':=aD hT hv
 refine ⟨_,h,.mk (x:=.pointer (some ⟨w.heap.size,0,none⟩)) (ob:=.cells (a.eval x).cells t) ?_ (vA (VR.mono (ks hf) _ _ hv') t) ?_⟩
 ·simp only [execOp,ho,Instr.box,Sem.run_bind,Result.andThen_ok,newVar,newRow,run_newObj,Sem.run_pure,World.alloc_eq]
 ·simp only [VR];exact ⟨_,bP _ _ _,rfl⟩
theorem wS (fs:List Field) (h:(fs.all λfd=>Nat.blt 0 (P.cellsOf fd.type))=true) (w:World):
  (fs.mapM λ(f:Field)=>do pure (f.offset,<-sizeOf f.type)).run P w=.ok (tf P fs) w:=by
 induction fs with
 | nil=>rfl
 | cons fd fs ih=>
  simp only [List.all_cons,Bool.and_eq_true] at h
  obtain ⟨i,hi⟩:=aU h.1
  have ih:=ih h.2
  simp only [List.mapM_cons,Sem.run_bind,dr hi,Result.andThen_ok,Sem.run_pure,ih]
  rfl
theorem yO {t:TypeId} {ps:Array (Nat×Operand)} (ho:o.op=.build t ps) (hT:TR ι s.T a.tmps) (h:effK P (opd s.T) s.H f (.build t ps) c=some z):
  ∃e,c e=some z/\dD P ι f o a w e:=by
 simp only [effK] at h
 obtain ⟨zv,hzv,h⟩:=af h
 obtain ⟨parts,hp,h⟩:=af h
 obtain ⟨x,i,h1,h2,h3,h4⟩:=nY ι hzv
 obtain ⟨p1,p2⟩:=mP hT _ _ hp
 have hzc:=iH h3
 have hps:(ps.map λ(i,x)=>(i,a.eval x)).toList=ps.toList.map λ(i,x)=>(i,a.eval x):=by simp
 split at h
 ·rename_i fs hd
  split at h
  ·rename_i hall
   obtain ⟨l,hl,h⟩:=af h
   obtain ⟨ds,hfill,hds⟩:=nQ _ _ (ps.toList.map λ(i,x)=>(i,a.eval x)) _ _ _ hzc p1 (by simp [VRs]) p2 hl
   refine ⟨_,h,.val (x:=.agg ds) ?_ (by simp only [VR];exact ⟨ds,rfl,hds⟩)⟩
   have hm:(fs.mapM λ(f:Field)=>do pure (f.offset,<-sizeOf f.type)).run P w=.ok (tf P fs.toList).toArray w:=by
    rw [Array.mapM_eq_mapM_toList]
    simp only [Sem.run_map,wS fs.toList hall,Result.andThen_ok]
   have hpl:(λ(i:Nat)=>(tf P fs.toList).toArray[i]?)=λ(i:Nat)=>(tf P fs.toList)[i]?:=by
    funext i;simp
   simp only [execOp,ho,Instr.build,Sem.run_bind,h4,Result.andThen_ok,run_underlying hd,hm,hpl,hps,hfill,Sem.run_pure]
  ·cases h
 ·rename_i n e hd
  split at h
  ·rename_i hpos
   obtain ⟨i',hi'⟩:=aU hpos
   obtain ⟨l,hl,h⟩:=af h
   obtain ⟨ds,hfill,hds⟩:=nQ _ _ (ps.toList.map λ(i,x)=>(i,a.eval x)) _ _ _ hzc p1 (by simp [VRs]) p2 hl
   refine ⟨_,h,.val (x:=.agg ds) ?_ (jN hds)⟩
   simp only [execOp,ho,Instr.build,Sem.run_bind,h4,Result.andThen_ok,run_underlying hd,dr hi',hps,hfill,Sem.run_pure]
  ·cases h
 ·cases h
theorem oG (l:List V):∀n,(qM l n).length=n*l.length
 | 0=>by simp [qM]
 | n+1=>by simp [qM,oG l n,Nat.add_mul,Nat.add_comm]
theorem AX {ι:Inj} {l:List V} {xs:Array Value} (h:VRs ι l xs.toList) (hl:0<l.length):∀n,VRs ι (qM l n) ((Array.range (n*l.length)).map (xs[·%xs.size]!)).toList:=by
 have hsz:xs.size=l.length:=by simpa using h.length
 intro n
 refine VRs.of_get (by simp [oG]) λj v x hj hx=>?_
 have key:∀n j v,(qM l n)[j]?=some v->l[j%l.length]?=some v:=by
  intro n
  induction n with
  | zero=>intro j v h;simp [qM] at h
  | succ n ih=>
   intro j v h
   simp only [qM] at h
   by_cases hlt:j<l.length
   ·rw [List.getElem?_append_left hlt] at h
    rw [Nat.mod_eq_of_lt hlt];exact h
   ·rw [List.getElem?_append_right (by omega)] at h
    have:=ih _ _ h
    rwa [<-Nat.mod_eq_sub_mod (by omega)] at this
 have hv:=key n j v hj
 obtain ⟨y,hy,hvy⟩:=h.get hv
 have hjn:j<n*l.length:=by
  rcases Nat.lt_or_ge j (n*l.length) with h' | h'
  ·exact h'
  ·rw [List.getElem?_eq_none (by rw [oG];omega)] at hj;cases hj
 have hmod:j%l.length<xs.size:=by rw [hsz];exact Nat.mod_lt _ hl
 have:x=xs[j%xs.size]! := by
  simp [hjn] at hx
  exact hx.symm
 rw [this,hsz]
 have hy':xs[j%l.length]?=some y:=by simpa using hy
 have:xs[j%l.length]! = y:=by
  rw [getElem!_def,hy']
 rw [this];exact hvy
theorem pR {t e:TypeId} {n:Nat} {zc:Value} {i:TypeInfo} {ps:Array (Nat×Value)} {ds:Array Value} {w:World} (hd:P.underlying t=some (.slice e)) (hi:P.info? e=some i)
  (hle:n*P.cellsOf e<=1000) (hz:∀w,(zeroValue e).run P w=.ok zc w)
  (hfill:Instr.fill (λi=>some (i*P.cellsOf e,P.cellsOf e)) ((Array.range (n*P.cellsOf e)).map (zc.cells[·%zc.cells.size]!)) ps.toList=some ds):
  (Instr.buildSlice t n ps).run P w=.ok (.slice (some ⟨w.heap.size,0,none⟩) n n) (w.alloc (.cells ds e)):=by
 have hno:¬(n*P.cellsOf e>2 ^ 24):=Nat.not_lt.2 (Nat.le_trans hle (by decide))
 unfold Instr.buildSlice
 simp only [Sem.run_bind,Result.andThen_ok,run_underlying hd,dr hi]
 rw [if_neg hno]
 by_cases h0:n*P.cellsOf e=0
 ·rw [if_pos h0]
  have hr0:Array.range 0=#[]:=rfl
  rw [h0] at hfill ⊢
  rw [hr0,Array.map_empty] at hfill
  simp only [Sem.run_bind,Sem.run_pure,Result.andThen_ok,hr0,Array.map_empty,hfill,newRow,run_newObj,World.alloc_eq]
 ·rw [if_neg h0]
  simp only [Sem.run_bind,hz,Sem.run_pure,Result.andThen_ok,hfill,newRow,run_newObj,World.alloc_eq]
theorem pS {t:TypeId} {n:Nat} {ps:Array (Nat×Operand)} (ho:o.op=.buildSlice t n ps) (hT:TR ι s.T a.tmps) (hf:ι f=none) (h:effK P (opd s.T) s.H f (.buildSlice t n ps) c=some z):
  ∃e,c e=some z/\dD P ι f o a w e:=by
 simp only [effK] at h
 split at h
 ·rename_i e hd
  split at h
  ·rename_i hb
   simp only [Bool.and_eq_true] at hb
   obtain ⟨hle,hpos⟩:=hb
   obtain ⟨i',hi'⟩:=aU hpos
   obtain ⟨zv,hzv,h⟩:=af h
   obtain ⟨parts,hp,h⟩:=af h
   split at h
   ·rename_i hlen
    have hlen:=Nat.eq_of_beq_eq_true hlen
    obtain ⟨l,hl,h⟩:=af h
    obtain ⟨x,i,h1,h2,h3,h4⟩:=nY ι hzv
    obtain ⟨p1,p2⟩:=mP hT _ _ hp
    have hzc:=iH h3
    have hps:(ps.map λ(i,x)=>(i,a.eval x)).toList=ps.toList.map λ(i,x)=>(i,a.eval x):=by simp
    have hpos':0<P.cellsOf e:=Nat.le_of_ble_eq_true hpos
    have hz2:=AX hzc (by omega) n
    rw [hlen] at hz2
    obtain ⟨ds,hfill,hds⟩:=nQ _ _ (ps.toList.map λ(i,x)=>(i,a.eval x)) _ _ _ hz2 p1 (by simp [VRs]) p2 hl
    rw [<-hps] at hfill
    have hrun:=pR (w:=w) hd hi' (Nat.le_of_ble_eq_true hle) h4 hfill
    split at h
    ·rename_i tr htr
     split at h
     case h_2=>cases h
     rename_i hb2
     simp only [Bool.and_eq_true,Nat.beq_eq] at hb2
     obtain ⟨e1,e2⟩:=hb2
     obtain ⟨m,hm,h⟩:=af h
     obtain ⟨m1,m2⟩:=sw hm (by rw [e2,e1])
     have hdsl:ds.size=n*tr.length:=by rw [e1,<-e2];simpa using hds.length
     rw [m2] at hds
     refine ⟨_,h,.mkR (d:=w.drawn) (q:=(Rf.of w.heap.size (n) (n))) (x:=.slice (some ⟨w.heap.size,0,none⟩) n n) (ob:=.cells ds e) ?_ rfl rfl
      ⟨ds,e,(0,0),rfl,m1,Nat.le_refl _,by rw [hdsl];simp,?_,.inr (lO _)⟩ ?_⟩
     ·simp only [execOp,ho,Sem.run_bind,hrun,Result.andThen_ok,Sem.run_pure]
     ·rw [<-u7 ι m _ hds,m1]
      simp only [List.drop_zero]
      exact List.take_of_length_le (by rw [Array.length_toList,hdsl];exact Nat.le_refl _)
     ·simp only [VR];exact .inl ⟨_,bP _ _ _,rfl⟩
    ·refine ⟨_,h,.mk (x:=.slice (some ⟨w.heap.size,0,none⟩) n n) (ob:=.cells ds e) ?_ ⟨ds,e,(0,0),rfl,VRs.mono (ks hf) _ _ hds,lO _⟩ ?_⟩
     ·simp only [execOp,ho,Sem.run_bind,hrun,Result.andThen_ok,Sem.run_pure]
     ·simp only [VR];exact ⟨_,n,bP _ _ _,λm hm=>by simpa using hm,Nat.le_refl _,rfl⟩
   ·cases h
  ·cases h
 ·cases h
theorem xw {t:TypeId} {x:Operand} (ho:o.op=.range t x) (hT:TR ι s.T a.tmps) (h:effK P (opd s.T) s.H f (.range t x) c=some z):
  ∃e,c e=some z/\dD P ι f o a w e:=by
 simp only [effK] at h
 split at h
 ·rename_i hd
  split at h
  ·rename_i l hx
   have hv:=aD hT hx
   simp only [VR] at hv
   refine ⟨_,h,.mk (x:=.pointer (some ⟨w.heap.size,0,none⟩)) (ob:=.stringIter ⟨l.toArray⟩ 0) ?_ rfl (by simp only [VR];exact ⟨_,bP _ _ _,rfl⟩)⟩
   simp only [execOp,ho,Instr.range,Sem.run_bind,Result.andThen_ok,run_underlying hd,hv,Sem.run_pure,run_newObj,World.alloc_eq]
  ·cases h
 ·cases h
end ops
end Go.Abs
