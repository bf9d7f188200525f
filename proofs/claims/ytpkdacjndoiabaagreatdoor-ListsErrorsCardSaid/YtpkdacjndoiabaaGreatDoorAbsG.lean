/- The abstract effect of an operation is what the model's own operation does: all operations but calls of Go functions.
   Conditions: none; generic over the program. -/
import Derived.Test.YtpkdacjndoiabaaGreatDoorAbsF
set_option linter.unusedSimpArgs false
namespace Go.Abs
variable {P:Program}
theorem nY (o j:Nat):padd o j=o+j:=by
 unfold padd
 cases h:Nat.beq o 0 with
 | true=>have:o=0:=bc h;simp [this]
 | false=>rfl
theorem uQ (j s:Nat):pmul j s=j*s:=by
 unfold pmul
 cases h:Nat.beq s 1 with
 | true=>have:s=1:=bc h;simp [this]
 | false=>rfl
theorem mH {n j:Nat} {i:Int} (h:ix n i=some j):0<=i/\i<n/\j=i.toNat:=by
 unfold ix at h
 split at h
 ·rename_i hc;simp only [am] at h;exact ⟨hc.1,hc.2,h.symm⟩
 ·cases h
theorem kh {n j:Nat} {i:Int} (h:bx n i=some j):0<=i/\i<=n/\j=i.toNat:=by
 unfold bx at h
 split at h
 ·rename_i hc;simp only [am] at h;exact ⟨hc.1,hc.2,h.symm⟩
 ·cases h
theorem mK {ι:Inj} {T:List (Nat×Option V)} {a:Act} (ht:TR ι T a.tmps) {x:Option Operand} {l:Option Int} (h:oL (opd T) x=some l):
  (l=none/\x.map a.eval=none)\/∃k n,l=some n/\x.map a.eval=some (.int k n):=by
 unfold oL at h
 split at h
 ·simp only [am] at h;subst h;exact .inl ⟨rfl,rfl⟩
 ·split at h
  ·rename_i k n hv
   simp only [am] at h;subst h
   have:=aZ ht hv
   simp only [VR] at this
   exact .inr ⟨k,n,rfl,by simp [this]⟩
  ·cases h
theorem wh {α:Type} {ι:Inj} {T:List (Nat×Option V)} {a:Act} (ht:TR ι T a.tmps) {lo hi:Option Operand} {l h:Option Int} (hl:oL (opd T) lo=some l)
  (hh:oL (opd T) hi=some h) {n len:Nat} {isSlice:Bool} {c:Nat->Nat->Option α} {z:α} (hz:(hiK n len h λh=>loK h l λl=>c h l)=some z):
  ∃H L,c H L=some z/\(h=none\/H<=n)/\(h=none->H=len)/\(h≠none->H<=n)/\L<=H/\(l=none->L=0)/\
   ∀w,(Instr.sliceBounds isSlice len n (lo.map a.eval) (hi.map a.eval) none).run P w=.ok (L,H,n) w:=by
 have hlo:∀{H:Nat},loK H l (c H)=some z->∃L,c H L=some z/\L<=H/\(l=none->L=0)/\
   ∀w,(match lo.map a.eval with | some v=>Instr.sliceBound v H .sliceB | none=>pure 0).run P w=.ok L w:=by
  intro H hz
  rcases mK ht hl with ⟨rfl,h1⟩ | ⟨k,m,rfl,h1⟩
  ·exact ⟨0,hz,qT _,λ_=>rfl,λw=>by rw [h1];rfl⟩
  ·simp only [loK] at hz
   obtain ⟨L,h2,h3⟩:=au hz
   obtain ⟨g0,g1,rfl⟩:=kh h2
   exact ⟨_,h3,by omega,by simp,λw=>by rw [h1];exact run_sliceBound w k m H .sliceB g0 g1⟩
 rcases mK ht hh with ⟨rfl,h1⟩ | ⟨k,m,rfl,h1⟩
 ·simp only [hiK] at hz
  obtain ⟨L,h2,h3,h4,h5⟩:=hlo hz
  refine ⟨len,L,h2,.inl rfl,λ_=>rfl,by simp,h3,h4,λw=>?_⟩
  have h5:=h5 w
  rw [h1]
  simp only [Instr.sliceBounds,av,az,ax,ud,ca,aE]
  cases hlm:lo.map a.eval with
  | none=>rw [hlm] at h5;simp only [az,uf,sA] at h5;simp [h5]
  | some v=>rw [hlm] at h5;simp only [] at h5;simp [h5]
 ·simp only [hiK] at hz
  obtain ⟨H,h2,h3⟩:=au hz
  obtain ⟨g0,g1,rfl⟩:=kh h2
  obtain ⟨L,h4,h5,h6,h7⟩:=hlo h3
  refine ⟨_,L,h4,.inr (by omega),by simp,λ_=>by omega,h5,h6,λw=>?_⟩
  have h7:=h7 w
  rw [h1]
  have hb:=run_sliceBound (P:=P) w k m n (if isSlice=true then .sliceAcap else .sliceAlen) g0 g1
  simp only [Instr.sliceBounds,av,az,ax,ud,ca,aE,hb]
  cases hlm:lo.map a.eval with
  | none=>rw [hlm] at h7;simp only [az,uf,sA] at h7;simp [h7]
  | some v=>rw [hlm] at h7;simp only [] at h7;simp [h7]
section ops
variable {α:Type} {ι:Inj} {s:St} {a:Act} {w:World} {f:Nat} {o:Oper} {c:Eff->Option α} {z:α}
theorem JU {t:TypeId} {x:Operand} (ho:o.op=.load t x) (hT:TR ι s.T a.tmps) (hW:WR ι s.H s.nb w) (h:effK P (opd s.T) s.H f (.load t x) c=some z):
  ∃e,c e=some z/\fi P ι f o a w e:=by
 simp only [effK] at h
 split at h
 ·rename_i b off hx
  split at h
  ·rename_i blk hb
   obtain ⟨v,X,r,h1,h2,h3,h4⟩:=EU hW hb h
   have hv:=aZ hT hx
   simp only [VR] at hv
   obtain ⟨r',h5,h6⟩:=hv
   rw [h2] at h5;cases h5
   exact ⟨_,h1,.val (by simp only [execOp,ho,h6,av,h3,ax,az]) h4⟩
  ·cases h
 ·rename_i zz b j off hx
  split at h
  case h_2=>cases h
  rename_i tr l hb
  split at h
  case h_2=>cases h
  rename_i hz
  have hz:=bc hz
  subst hz
  obtain ⟨xr,hj,h⟩:=au h
  have hv:=aZ hT hx
  simp only [VR] at hv
  obtain ⟨q,h5,h6⟩:=hv
  rcases ie hW hb with ⟨q',cs,e,fr,g1,g2,g3,g4,g5,g6,g7⟩ | ⟨g1,_⟩
  ·rw [h5] at g1;cases g1
   obtain ⟨r1,r2⟩:=MA g6 hj
   have hle:l.length*tr.length<=q.k*tr.length:=mD _ (by omega)
   rw [<-gN] at h6
   obtain ⟨v,X,h1,h3,h4⟩:=Ls (o:=off) g2 (by rw [ji,r1];exact (md ι tr xr _).2 rfl) (by rw [ji];omega) h
   exact ⟨_,h1,.val (by simp only [execOp,ho,h6,av,h3,ax,az]) h4⟩
  ·rw [h5] at g1;cases g1
 ·cases h
theorem IK {t:TypeId} {x y:Operand} (ho:o.op=.store t x y) (hT:TR ι s.T a.tmps) (hW:WR ι s.H s.nb w) (h:effK P (opd s.T) s.H f (.store t x y) c=some z):
  ∃e,c e=some z/\fi P ι f o a w e:=by
 simp only [effK] at h
 split at h
 ·rename_i b off hx
  obtain ⟨v,hy,h⟩:=au h
  split at h
  ·rename_i blk hb
   obtain ⟨blk',obj,r,h1,h2,h3,h4⟩:=GQ hW hb (aZ hT hy) h
   have hv:=aZ hT hx
   simp only [VR] at hv
   obtain ⟨r',h5,h6⟩:=hv
   rw [h2] at h5;cases h5
   refine ⟨_,h1,?_⟩
   unfold fi
   exact ⟨r,h2,λ_=>⟨obj,.skip,by simp only [execOp,ho,h6,av,h3,ax,az],h4,.skip rfl⟩⟩
  ·cases h
 ·rename_i zz b j off hx
  obtain ⟨v,hy,hh⟩:=au h
  clear h
  have h:=hh
  clear hh
  split at h
  case h_2=>cases h
  rename_i tr l hb
  split at h
  case h_2=>cases h
  rename_i hz
  have hz:=bc hz
  subst hz
  obtain ⟨xr,hj,h⟩:=au h
  have hv:=aZ hT hx
  simp only [VR] at hv
  obtain ⟨q,h5,h6⟩:=hv
  rcases ie hW hb with ⟨q',cs,e,fr,g1,g2,g3,g4,g5,g6,g7⟩ | ⟨g1,_⟩
  ·rw [h5] at g1;cases g1
   obtain ⟨r1,r2⟩:=MA g6 hj
   have hle:l.length*tr.length<=q.k*tr.length:=mD _ (by omega)
   rw [<-gN] at h6
   obtain ⟨l',X,h1,h2,h3,h4⟩:=IA (o:=off) (fr:=fr) g2 (by rw [ji,r1];exact (md ι tr xr _).2 rfl) (by rw [ji];omega) (aZ hT hy) h
   simp only at h1
   obtain ⟨x',hx',h1⟩:=au h1
   have hX:X=vals tr x':=(md ι tr x' X).1 (by rw [<-tA hx'];exact h3)
   subst hX
   have hjl:j<l.length:=by
    rcases aH j l.length with h' | h'
    ·exact h'
    ·rw [eo h'] at hj;cases hj
   have hsz:(splA cs (q.o+j*tr.length) (vals tr x')).size=cs.size:=vC (by rw [fA];omega)
   refine ⟨_,h1,?_⟩
   unfold fi
   refine ⟨q,h5,λhz=>?_⟩
   have hnf:=g7.resolve_left (by rw [hz];simp)
   refine ⟨_,.skip,by simp only [execOp,ho,h6,av,h4 hnf,ax,az];rfl,⟨_,e,fr,rfl,by rw [A9];exact g3,g4,by rw [hsz];exact g5,?_,.inr (by rw [hsz];exact hnf)⟩,.skip rfl⟩
   exact Lh (by omega) g6 x' hjl
  ·rw [h5] at g1;cases g1
 ·cases h
theorem Ik {t:TypeId} (ho:o.op=.alloc t) (h:effK P (opd s.T) s.H f (.alloc t) c=some z):∃e,c e=some z/\fi P ι f o a w e:=by
 simp only [effK] at h
 obtain ⟨v,hv,h⟩:=au h
 obtain ⟨x,i,h1,h2,h3,h4⟩:=tM (upd ι f (some (Rf.of w.heap.size (0) (0)))) hv
 refine ⟨_,h,.mk (x:=.pointer (some ⟨w.heap.size,0,none⟩)) (ob:=.cells x.cells t) ?_ (C2 (Nj h3) t) ?_⟩
 ·simp only [execOp,ho,Instr.alloc,av,h4,ax,newVar,newRow,vL,az,uB]
 ·simp only [VR];exact ⟨_,cM _ _ _,rfl⟩
theorem Ou {t:TypeId} {x:Operand} (ho:o.op=.box t x) (hT:TR ι s.T a.tmps) (hf:ι f=none) (h:effK P (opd s.T) s.H f (.box t x) c=some z):
  ∃e,c e=some z/\fi P ι f o a w e:=by
 simp only [effK] at h
 obtain ⟨v,hv,h⟩:=au h
 have hv':=aZ hT hv
 refine ⟨_,h,.mk (x:=.pointer (some ⟨w.heap.size,0,none⟩)) (ob:=.cells (a.eval x).cells t) ?_ (C2 (VR.mono (nz hf) _ _ hv') t) ?_⟩
 ·simp only [execOp,ho,Instr.box,av,ax,newVar,newRow,vL,az,uB]
 ·simp only [VR];exact ⟨_,cM _ _ _,rfl⟩
theorem FC (fs:List Field) (h:(fs.all λfd=>Nat.blt 0 (P.cellsOf fd.type))=true) (w:World):
  (fs.mapM λ(f:Field)=>do pure (f.offset,<-sizeOf f.type)).run P w=.ok (Ai P fs) w:=by
 induction fs with
 | nil=>rfl
 | cons fd fs ih=>
  simp only [m9,ay] at h
  obtain ⟨i,hi⟩:=bH h.1
  have ih:=ih h.2
  simp only [uE,av,eK hi,ax,az,ih]
  rfl
theorem Ig {t:TypeId} {ps:Array (Nat×Operand)} (ho:o.op=.build t ps) (hT:TR ι s.T a.tmps) (h:effK P (opd s.T) s.H f (.build t ps) c=some z):
  ∃e,c e=some z/\fi P ι f o a w e:=by
 simp only [effK] at h
 obtain ⟨zv,hzv,h⟩:=au h
 obtain ⟨parts,hp,h⟩:=au h
 obtain ⟨x,i,h1,h2,h3,h4⟩:=tM ι hzv
 obtain ⟨p1,p2⟩:=sc hT _ _ hp
 have hzc:=lP h3
 have hps:(ps.map λ(i,x)=>(i,a.eval x)).toList=ps.toList.map λ(i,x)=>(i,a.eval x):=by simp
 split at h
 ·rename_i fs hd
  split at h
  ·rename_i hall
   obtain ⟨l,hl,h⟩:=au h
   obtain ⟨ds,hfill,hds⟩:=tZ _ _ (ps.toList.map λ(i,x)=>(i,a.eval x)) _ _ _ hzc p1 (by simp [VRs]) p2 hl
   refine ⟨_,h,.val (x:=.agg ds) ?_ (by simp only [VR];exact ⟨ds,rfl,hds⟩)⟩
   have hm:(fs.mapM λ(f:Field)=>do pure (f.offset,<-sizeOf f.type)).run P w=.ok (Ai P fs.toList).toArray w:=by
    rw [MP]
    simp only [Sem.run_map,FC fs.toList hall,ax]
   have hpl:(λ(i:Nat)=>(Ai P fs.toList).toArray[i]?)=λ(i:Nat)=>(Ai P fs.toList)[i]?:=by
    funext i;simp
   simp only [execOp,ho,Instr.build,av,h4,ax,aS hd,hm,hpl,hps,hfill,az]
  ·cases h
 ·rename_i n e hd
  split at h
  ·rename_i hpos
   obtain ⟨i',hi'⟩:=bH hpos
   obtain ⟨l,hl,h⟩:=au h
   obtain ⟨ds,hfill,hds⟩:=tZ _ _ (ps.toList.map λ(i,x)=>(i,a.eval x)) _ _ _ hzc p1 (by simp [VRs]) p2 hl
   refine ⟨_,h,.val (x:=.agg ds) ?_ (nK hds)⟩
   simp only [execOp,ho,Instr.build,av,h4,ax,aS hd,eK hi',hps,hfill,az]
  ·cases h
 ·cases h
theorem vc (l:List V):∀n,(y7 l n).length=n*l.length
 | 0=>by simp [y7]
 | n+1=>by simp [y7,vc l n,fH,nT]
theorem JR {ι:Inj} {l:List V} {xs:Array Value} (h:VRs ι l xs.toList) (hl:0<l.length):∀n,VRs ι (y7 l n) ((Array.range (n*l.length)).map (xs[·%xs.size]!)).toList:=by
 have hsz:xs.size=l.length:=by simpa using h.length
 intro n
 refine VRs.of_get (by simp [vc]) λj v x hj hx=>?_
 have key:∀n j v,(y7 l n)[j]?=some v->l[j%l.length]?=some v:=by
  intro n
  induction n with
  | zero=>intro j v h;simp [y7] at h
  | succ n ih=>
   intro j v h
   simp only [y7] at h
   by_cases hlt:j<l.length
   ·rw [l7 hlt] at h
    rw [ou hlt];exact h
   ·rw [n9 (by omega)] at h
    have:=ih _ _ h
    rwa [<-Nat.mod_eq_sub_mod (by omega)] at this
 have hv:=key n j v hj
 obtain ⟨y,hy,hvy⟩:=h.get hv
 have hjn:j<n*l.length:=by
  rcases aH j (n*l.length) with h' | h'
  ·exact h'
  ·rw [eo (by rw [vc];omega)] at hj;cases hj
 have hmod:j%l.length<xs.size:=by rw [hsz];exact o8 _ hl
 have:x=xs[j%xs.size]! := by
  simp [hjn] at hx
  exact hx.symm
 rw [this,hsz]
 have hy':xs[j%l.length]?=some y:=by simpa using hy
 have:xs[j%l.length]! = y:=by
  rw [getElem!_def,hy']
 rw [this];exact hvy
theorem ww {t e:TypeId} {n:Nat} {zc:Value} {i:TypeInfo} {ps:Array (Nat×Value)} {ds:Array Value} {w:World} (hd:P.underlying t=some (.slice e)) (hi:P.info? e=some i)
  (hle:n*P.cellsOf e<=1000) (hz:∀w,(zeroValue e).run P w=.ok zc w)
  (hfill:Instr.fill (λi=>some (i*P.cellsOf e,P.cellsOf e)) ((Array.range (n*P.cellsOf e)).map (zc.cells[·%zc.cells.size]!)) ps.toList=some ds):
  (Instr.buildSlice t n ps).run P w=.ok (.slice (some ⟨w.heap.size,0,none⟩) n n) (w.alloc (.cells ds e)):=by
 have hno:¬(n*P.cellsOf e>2 ^ 24):=Nat.not_lt.2 (oW hle (by decide))
 unfold Instr.buildSlice
 simp only [av,ax,aS hd,eK hi]
 rw [ab hno]
 by_cases h0:n*P.cellsOf e=0
 ·rw [ad h0]
  have hr0:Array.range 0=#[]:=rfl
  rw [h0] at hfill ⊢
  rw [hr0,Df] at hfill
  simp only [av,az,ax,hr0,Df,hfill,newRow,vL,uB]
 ·rw [ab h0]
  simp only [av,hz,az,ax,hfill,newRow,vL,uB]
theorem wt {t:TypeId} {n:Nat} {ps:Array (Nat×Operand)} (ho:o.op=.buildSlice t n ps) (hT:TR ι s.T a.tmps) (hf:ι f=none) (h:effK P (opd s.T) s.H f (.buildSlice t n ps) c=some z):
  ∃e,c e=some z/\fi P ι f o a w e:=by
 simp only [effK] at h
 split at h
 ·rename_i e hd
  split at h
  ·rename_i hb
   simp only [ay] at hb
   obtain ⟨hle,hpos⟩:=hb
   obtain ⟨i',hi'⟩:=bH hpos
   obtain ⟨zv,hzv,h⟩:=au h
   obtain ⟨parts,hp,h⟩:=au h
   split at h
   ·rename_i hlen
    have hlen:=bc hlen
    obtain ⟨l,hl,h⟩:=au h
    obtain ⟨x,i,h1,h2,h3,h4⟩:=tM ι hzv
    obtain ⟨p1,p2⟩:=sc hT _ _ hp
    have hzc:=lP h3
    have hps:(ps.map λ(i,x)=>(i,a.eval x)).toList=ps.toList.map λ(i,x)=>(i,a.eval x):=by simp
    have hpos':0<P.cellsOf e:=aD hpos
    have hz2:=JR hzc (by omega) n
    rw [hlen] at hz2
    obtain ⟨ds,hfill,hds⟩:=tZ _ _ (ps.toList.map λ(i,x)=>(i,a.eval x)) _ _ _ hz2 p1 (by simp [VRs]) p2 hl
    rw [<-hps] at hfill
    have hrun:=ww (w:=w) hd hi' (aD hle) h4 hfill
    split at h
    ·rename_i tr htr
     split at h
     case h_2=>cases h
     rename_i hb2
     simp only [ay,gP] at hb2
     obtain ⟨e1,e2⟩:=hb2
     obtain ⟨m,hm,h⟩:=au h
     obtain ⟨m1,m2⟩:=Az hm (by rw [e2,e1])
     have hdsl:ds.size=n*tr.length:=by rw [e1,<-e2];simpa using hds.length
     rw [m2] at hds
     refine ⟨_,h,.mkR (d:=w.drawn) (q:=(Rf.of w.heap.size (n) (n))) (x:=.slice (some ⟨w.heap.size,0,none⟩) n n) (ob:=.cells ds e) ?_ rfl rfl
      ⟨ds,e,(0,0),rfl,m1,aU _,by rw [hdsl];simp,?_,.inr (qB _)⟩ ?_⟩
     ·simp only [execOp,ho,av,hrun,ax,az]
     ·rw [<-EK ι m _ hds,m1]
      simp only [gk]
      exact gL (by rw [HO,hdsl];exact aU _)
     ·simp only [VR];exact .inl ⟨_,cM _ _ _,rfl⟩
    ·refine ⟨_,h,.mk (x:=.slice (some ⟨w.heap.size,0,none⟩) n n) (ob:=.cells ds e) ?_ ⟨ds,e,(0,0),rfl,VRs.mono (nz hf) _ _ hds,qB _⟩ ?_⟩
     ·simp only [execOp,ho,av,hrun,ax,az]
     ·simp only [VR];exact ⟨_,n,cM _ _ _,λm hm=>by simpa using hm,aU _,rfl⟩
   ·cases h
  ·cases h
 ·cases h
theorem Ie {t:TypeId} {x:Operand} (ho:o.op=.range t x) (hT:TR ι s.T a.tmps) (h:effK P (opd s.T) s.H f (.range t x) c=some z):
  ∃e,c e=some z/\fi P ι f o a w e:=by
 simp only [effK] at h
 split at h
 ·rename_i hd
  split at h
  ·rename_i l hx
   have hv:=aZ hT hx
   simp only [VR] at hv
   refine ⟨_,h,.mk (x:=.pointer (some ⟨w.heap.size,0,none⟩)) (ob:=.stringIter ⟨l.toArray⟩ 0) ?_ rfl (by simp only [VR];exact ⟨_,cM _ _ _,rfl⟩)⟩
   simp only [execOp,ho,Instr.range,av,ax,aS hd,hv,az,vL,uB]
  ·cases h
 ·cases h
end ops
end Go.Abs
