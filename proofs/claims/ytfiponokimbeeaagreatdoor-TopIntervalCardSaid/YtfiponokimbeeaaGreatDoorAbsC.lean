
/- What the abstract effect of an operation says of the model's own operation: the parts of it.
   Conditions: none; generic over the program. -/
import Derived.Test.YtfiponokimbeeaaGreatDoorAbsB
import Derived.Laws.Entries
import Derived.Laws.Cells
set_option linter.unusedSimpArgs false
set_option linter.unusedVariables false
namespace Go.Abs
variable {P:Program}
theorem lC {t:TypeId} {d:TypeDesc} (h:P.underlying t=some d):∃i,P.info? t=some i:=by
 unfold Program.underlying at h;cases hi:P.info? t with
 | none=>simp [hi] at h
 | some i=>exact ⟨i,rfl⟩
theorem bL {t:TypeId} (h:Nat.blt 0 (P.cellsOf t)=true):∃i,P.info? t=some i:=by
 unfold Program.cellsOf at h;cases hi:P.info? t with
 | none=>simp [hi] at h
 | some i=>exact ⟨i,rfl⟩
theorem fk {t:TypeId} {i:TypeInfo} (h:P.info? t=some i) (w:World):(sizeOf t).run P w=.ok (P.cellsOf t) w:=by
 simp [sizeOf,typeInfo,h,Program.cellsOf]
theorem jn {t:TypeId} {d:TypeDesc} (h:P.underlying t=some d) (w:World):(isAgg t).run P w=.ok (bI P t) w:=by
 unfold isAgg bI;rw [h];simp only [aw,aR h,az];cases d<;>rfl
theorem AZ (ι:Inj) {x:Value} {v:V} (h:EA x=some v):VR ι v x/\x.cells=#[x]/\oneV v=true:=by
 unfold EA at h;split at h<;>simp_all [Value.cells]
 all_goals (subst h;simp [VR,oneV,Value.cells,Value.oneCell'])
theorem xd (ι:Inj):∀{a:List Value} {l:List V},vC a=some l->VRs ι l a
 | [],_,h=>by simp only [vC,ak] at h;subst h;simp [VRs]
 | x::a,l,h=>by
  simp only [vC] at h;split at h
  ·rename_i v c;split at h
   ·rename_i m b;simp only [ak] at h;subst h;simp only [VRs];exact ⟨x,a,rfl,(AZ ι c).1,xd ι b⟩
   ·cases h
  ·cases h
theorem Ee (ι:Inj) {x:Value} {v:V} (h:Nx x=some v):VR ι v x:=by
 unfold Nx at h;split at h
 ·split at h
  ·rename_i a;simp only [ak] at h;subst h;simp only [VR];exact ⟨_,rfl,xd ι a⟩
  ·cases h
 ·exact (AZ ι h).1
theorem rI {k:IntKind}:∀{l:List V} {b:List Int},xl k l=some b->l=b.map (V.i k)
 | [],_,h=>by simp only [xl,ak] at h;subst h;rfl
 | v::l,b,h=>by
  unfold xl at h;split at h<;>rename_i a
  ·cases a
  ·injection a with h1 h2;subst h1 h2;split at h
   ·rename_i d;split at h
    ·rename_i m c;simp only [ak] at h;subst h;rw [rI c,jE d];rfl
    ·cases h
   ·cases h
  ·cases h
theorem ru:∀{l:List V} {b:List (aa)},xc l=some b->l=b.map V.s
 | [],_,h=>by simp only [xc,ak] at h;subst h;rfl
 | v::l,b,h=>by
  unfold xc at h;split at h<;>rename_i a
  ·cases a
  ·injection a with h1 h2;subst h1 h2;split at h
   ·rename_i m c;simp only [ak] at h;subst h;rw [ru c];rfl
   ·cases h
  ·cases h
theorem VRs.of_ints {ι:Inj} {k:IntKind}:∀{E:List Int} {C:List Value},VRs ι (E.map (V.i k)) C->C=E.map (Value.int k)
 | [],_,h=>by simpa [VRs] using h
 | x::E,C,h=>by
  simp only [iC,VRs,VR] at h;obtain ⟨y,G,rfl,rfl,F⟩:=h;simp [VRs.of_ints F]
theorem nN {ι:Inj} {t:TypeId} {l:List V} {a:Array Value} (h:VRs ι l a.toList):VR ι (Bv P t l) (.agg a):=by
 unfold Bv;split
 ·split
  ·rename_i hx;rw [rI hx] at h;simp only [VR,ku];have:=VRs.of_ints h;rw [Value.agg.injEq];apply jK;simpa using this
  ·simp only [VR];exact ⟨a,rfl,h⟩
 ·simp only [VR];exact ⟨a,rfl,h⟩
theorem ON {ι:Inj} {t:TypeId} {v:V} {x:Value} (h:VR ι v x):VR ι (norm P t v) x:=by
 cases v<;>simp only [norm]<;>try exact h
 simp only [VR] at h;obtain ⟨a,rfl,h⟩:=h;exact nN h
theorem qD (n:Nat):NF (0,0) n:=by
 intro j _ h;simp at h
theorem ED {ι:Inj} {q:Rf} {v:V} {x:Value} (h:VR ι v x) (t:TypeId):BR ι q (LM v) (.cells x.cells t):=by
 have one:∀{v:V} {x:Value},VR ι v x->x.cells=#[x]->BR ι q (.cells [v]) (.cells x.cells t):=by
  intro v x h hx;rw [hx];exact ⟨_,_,_,rfl,by simp only [VRs];exact ⟨x,[],rfl,h,rfl⟩,qD _⟩
 cases v with
 | ag l=>
  simp only [VR] at h;obtain ⟨a,rfl,h⟩:=h;exact ⟨a,t,(0,0),rfl,h,qD _⟩
 | ai k n l=>
  simp only [VR] at h;obtain ⟨b,rfl⟩:=h;exact ⟨t,(0,0),rfl,b,qD _⟩
 | _=>
  simp only [LM];refine one h ?_;simp only [VR] at h
  first
   | (rcases h with ⟨_,_,rfl⟩ | ⟨_,_,rfl⟩<;>rfl)
   | (rcases h with ⟨_,_,_,_,_,_,rfl⟩ | ⟨_,_,_,rfl⟩<;>rfl)
   | (subst h;rfl)
   | (obtain ⟨a,h,_⟩:=h;obtain ⟨_,_,_,e⟩:=xx _ a;rw [h,e];rfl)
   | (obtain ⟨_,rfl,_⟩:=h;rfl)
   | (obtain ⟨_,_,rfl⟩:=h;rfl)
   | (obtain ⟨_,_,_,_,_,rfl⟩:=h;rfl)
   | exact h.1
theorem uC (k:IntKind) (l:List Int):∀(n j:Nat),rX k l n j=(List.range n).map λi=>V.i k (l.getD (j+i) 0)
 | 0,_=>rfl
 | n+1,j=>by
  simp only [rX,uC k l n (j+1),List.range_succ_eq_map,iC,xQ,bZ];congr 1;apply List.map_congr_left;intro i _;simp [gj,nL 1 i]
theorem BI (k:IntKind) {l:List Int} {n:Nat} (h:l.length=n):rX k l n 0=l.map (V.i k):=by
 rw [uC];apply Bg;intro i;by_cases hi:i<n
 ·simp [hi,h▸hi,List.getD]
 ·simp [hi,fX (Nat.le_of_not_lt (h▸hi))]
theorem lM {ι:Inj} {v:V} {x:Value} (h:VR ι v x):VRs ι (cellsOf v) x.cells.toList:=by
 have one:∀{v:V} {x:Value},VR ι v x->x.cells=#[x]->VRs ι [v] x.cells.toList:=by
  intro v x h hx;rw [hx];simp only [VRs];exact ⟨x,[],rfl,h,rfl⟩
 cases v with
 | ag l=>
  simp only [VR] at h;obtain ⟨a,rfl,h⟩:=h;exact h
 | ai k n l=>
  simp only [VR] at h;obtain ⟨b,rfl⟩:=h;simp only [cellsOf,BI k b,Value.cells];exact VRs.ints k l
 | _=>
  simp only [cellsOf];refine one h ?_;simp only [VR] at h
  first
   | (rcases h with ⟨_,_,rfl⟩ | ⟨_,_,rfl⟩<;>rfl)
   | (rcases h with ⟨_,_,_,_,_,_,rfl⟩ | ⟨_,_,_,rfl⟩<;>rfl)
   | (subst h;rfl)
   | (obtain ⟨a,h,_⟩:=h;obtain ⟨_,_,_,e⟩:=xx _ a;rw [h,e];rfl)
   | (obtain ⟨_,rfl,_⟩:=h;rfl)
   | (obtain ⟨_,_,rfl⟩:=h;rfl)
   | (obtain ⟨_,_,_,_,_,rfl⟩:=h;rfl)
   | exact h.1
theorem bh {ι:Inj} {T:List (Nat×Option V)} {a:Act} (b:TR ι T a.tmps) {x:Operand} {v:V} (h:opd T x=some v):VR ι v (a.eval x):=by
 cases x with
 | tmp t=>
  simp only [opd] at h;split at h
  ·rename_i u j;simp only [ak] at h;subst h;obtain ⟨y,e,i⟩:=b t u j;simpa [Act.eval,oP,e] using i
  ·cases h
 | const c=>exact Ee ι h
 | func f=>
  simp only [opd] at h;split at h
  ·rename_i d;simp only [ak] at h;subst h;simp only [VR,Act.eval];exact ⟨#[],(CQ d _).symm,by simp [VRs]⟩
  ·cases h
 | global g=>simp [opd] at h
theorem uF {ι:Inj} {T:List (Nat×Option V)} {a:Act} (c:TR ι T a.tmps):∀{b:List Operand} {l:List V},opds (opd T) b=some l->VRs ι l (b.map a.eval)
 | [],_,h=>by simp only [opds,ak] at h;subst h;simp [VRs]
 | x::b,l,h=>by
  simp only [opds] at h;split at h
  ·rename_i v e;split at h
   ·rename_i m d;simp only [ak] at h;subst h;simp only [iC,VRs];exact ⟨_,_,rfl,bh c e,uF c d⟩
   ·cases h
  ·cases h
theorem B5 {ι:Inj} {v:V} {x:Value} (h:VR ι v x) (a:oneV v=true):x.oneCell'=true:=by
 cases v<;>simp only [oneV,bj] at a<;>simp only [VR] at h<;>first
  | (rcases h with ⟨_,_,rfl⟩ | ⟨_,_,rfl⟩<;>rfl)
  | (rcases h with ⟨_,_,_,_,_,_,rfl⟩ | ⟨_,_,_,rfl⟩<;>rfl)
  | (subst h;rfl)
  | (obtain ⟨b,h,_⟩:=h;obtain ⟨_,_,_,e⟩:=xx _ b;rw [h,e];rfl)
  | (obtain ⟨_,rfl,_⟩:=h;rfl)
  | (obtain ⟨_,_,rfl⟩:=h;rfl)
  | (obtain ⟨_,_,_,_,_,rfl⟩:=h;rfl)
  | exact h.2
theorem o8 {ι:Inj} {H:List (Nat×Blk)} {nb b:Nat} {w:World} (g:WR ι H nb w) {l:List V} (d:look H b=some (.cells l)):
  ∃r a e fr,ι b=some (some r)/\w.heap[r.r]?=some (.cells a e fr)/\VRs ι l a.toList/\NF fr a.size:=by
 obtain ⟨r,o,f,h,a,e,fr,rfl,i,c⟩:=(g.blk b _ d (by simp)).real (by simp);exact ⟨r,a,e,fr,f,h,i,c⟩
theorem uf {ι:Inj} {H:List (Nat×Blk)} {nb b:Nat} {w:World} (f:WR ι H nb w) {k:IntKind} {n:Nat} {l:List Int} (c:look H b=some (.ints k n l)):
  ∃r e fr,ι b=some (some r)/\w.heap[r.r]?=some (.cells (l.map (Value.int k)).toArray e fr)/\l.length=n/\NF fr n:=by
 obtain ⟨r,o,d,g,e,fr,rfl,h,a⟩:=(f.blk b _ c (by simp)).real (by simp);exact ⟨r,e,fr,d,g,h,a⟩
theorem iw {ι:Inj} {H:List (Nat×Blk)} {nb b:Nat} {w:World} (h:WR ι H nb w) {t:List Lf} {l:List (den t)} (g:look H b=some (.rows t l)):
  (∃r a e fr,ι b=some (some r)/\w.heap[r.r]?=some (.cells a e fr)/\l.length=r.n/\r.n<=r.k/\r.o+r.k*t.length<=a.size/\(a.toList.drop r.o).take (l.length*t.length)=l.flatMap (vals t)/\(r.fz=true\/NF fr a.size))\/
  (ι b=some none/\l=[]):=by
 rcases h.blk b _ g (by simp) with ⟨r,o,c,d,a,e,fr,rfl,f⟩ | ⟨c,i,d⟩
 ·exact .inl ⟨r,a,e,fr,c,d,f⟩
 ·injection d with f h4;subst f;exact .inr ⟨c,eq_of_heq h4⟩
theorem my {t:List Lf}:∀(l:List (den t)),(l.flatMap (vals t)).length=l.length*t.length
 | []=>by simp
 | x::l=>by simp [pB,iW,my l,fY,nL]
theorem H6 {t:List Lf}:∀(l:List (den t)) (j:Nat) (x:den t),l[j]?=some x->((l.flatMap (vals t)).drop (j*t.length)).take t.length=vals t x
 | [],j,x,h=>by simp at h
 | y::l,0,x,h=>by
  simp only [kV,ak] at h;subst h;simp only [yk,cg,pB];rw [sV (by rw [iW];exact aQ _),jc (by rw [iW];exact aQ _)]
 | y::l,j+1,x,h=>by
  simp only [EO] at h;simp only [pB];rw [show (j+1)*t.length=(vals t y).length+j*t.length by rw [iW,fY];omega,E0,iD (by omega)];simp only [CJ,dn];exact H6 l j x h
theorem On {t:List Lf} {l:List (den t)} {f:Array Value} {o:Nat} (h:(f.toList.drop o).take (l.length*t.length)=l.flatMap (vals t)) {j:Nat} {x:den t} (d:l[j]?=some x):
  (f.toList.drop (o+j*t.length)).take t.length=vals t x/\j*t.length+t.length<=l.length*t.length:=by
 have b:j<l.length:=by
  rcases aF j l.length with a | a
  ·exact a
  ·rw [fX a] at d;cases d
 have c:j*t.length+t.length<=l.length*t.length:=by
  have:=mH t.length (show j+1<=l.length from b);rw [fY] at this;omega
 refine ⟨?_,c⟩;have e:=H6 l j x d;rw [<-h,wu,yW,qJ (by omega),gV] at e;exact e
theorem mD {t:TypeId} {d:TypeDesc} (b:P.underlying t=some d) (c:bI P t=false) {w:World} {r o:Nat} {a:Array Value} {e:TypeId} {fr:Nat×Nat}
  (h:w.heap[r]?=some (.cells a e fr)) {x:Value} (hx:a[o]?=some x):(Instr.loadAt t (.pointer (some ⟨r,o,none⟩))).run P w=.ok x w:=by
 simp only [Instr.loadAt,Instr.sureAddr,loadVar,aw,aD,az,jn b,c,bj,aE,run_load,be h,hx]
theorem mF {t:TypeId} {d:TypeDesc} (k:P.underlying t=some d) (l:bI P t=true) {w:World} {r o:Nat} {b:Array Value} {e:TypeId} {fr:Nat×Nat}
  (h:w.heap[r]?=some (.cells b e fr)) (n:o+P.cellsOf t<=b.size):
  (Instr.loadAt t (.pointer (some ⟨r,o,none⟩))).run P w=.ok (.agg ((b.toList.drop o).take (P.cellsOf t)).toArray) w:=by
 obtain ⟨i,hi⟩:=lC k;have a:((b.toList.drop o).take (P.cellsOf t)).length=P.cellsOf t:=by simp;omega
 have hc:=vT (P:=P) w ⟨r,o,none⟩ ((b.toList.drop o).take (P.cellsOf t)) (λj v c=>by
  have f:j<P.cellsOf t:=by
   rcases aF j (P.cellsOf t) with g | g
   ·exact g
   ·rw [fX (by omega)] at c;cases c
  rw [ov f,ll] at c;have:(⟨r,o,none⟩:Addr).add j=⟨r,o+j,none⟩:=by
   unfold Addr.add;split
   ·rename_i m;subst m;rfl
   ·rfl
  rw [this,be h];simpa using c)
 rw [a] at hc;simp only [Instr.loadAt,Instr.sureAddr,loadVar,aw,aD,az,jn k,l,aI,fk hi,hc]
theorem xg {α:Type} {ι:Inj} {H:List (Nat×Blk)} {nb b o:Nat} {w:World} (m:WR ι H nb w) {blk:Blk} (k:look H b=some blk) {t:TypeId} {d:TypeDesc}
  (p:P.underlying t=some d) (l:bI P t=true) {c:V->Option α} {z:α} (h:oi P t blk o c=some z):
  ∃v x r,c v=some z/\ι b=some (some r)/\(Instr.loadAt t (.pointer (some ⟨r.r,o,none⟩))).run P w=.ok x w/\VR ι v x:=by
 unfold oi at h;split at h
 ·split at h
  ·rename_i i;have hle':=aG i;obtain ⟨r,n,e,fr,g,j,f,q⟩:=o8 m k;have s:=f.length;have hsz':n.size=n.toList.length:=by simp
   exact ⟨_,_,r,h,g,mF p l j (by omega),nN (by simpa using (f.drop o).take _)⟩
  ·cases h
 ·split at h
  ·rename_i a;simp only [aB,ig] at a;obtain ⟨rfl,u⟩:=a;obtain ⟨r,e,fr,g,j,f,q⟩:=uf m k;refine ⟨_,_,r,h,g,mF p l j (by simp;omega),?_⟩;simp only [VR];refine ⟨f,?_⟩;rw [Value.agg.injEq];apply jK;simp only [cg];exact jc (by simp;omega)
  ·cases h
 ·cases h
theorem TN {k:IntKind} {l:List V} {o:Nat} {n:Int} (h:(l.map (tI k))[o]?=some (some n)):l[o]?=some (.i k n):=by
 rw [lX] at h;cases a:l[o]? with
 | none=>rw [a] at h;cases h
 | some v=>
  rw [a] at h;simp only [dU,ak] at h;unfold tI at h;split at h
  ·split at h
   ·rename_i b;rw [jE b];simp only [ak] at h;rw [h]
   ·cases h
  ·cases h
theorem FU {α:Type} {ι:Inj} {H:List (Nat×Blk)} {nb b o:Nat} {w:World} (s:WR ι H nb w) {blk:Blk} (i:look H b=some blk) {t:TypeId}
  {c:V->Option α} {z:α} (h:wV P t blk o c=some z):
  ∃v x r,c v=some z/\ι b=some (some r)/\(Instr.loadAt t (.pointer (some ⟨r.r,o,none⟩))).run P w=.ok x w/\VR ι v x:=by
 have one:∀{d:TypeDesc} {l:List V} {v:V},P.underlying t=some d->bI P t=false->look H b=some (.cells l)->l[o]?=some v->c v=some z->
   ∃v x r,c v=some z/\ι b=some (some r)/\(Instr.loadAt t (.pointer (some ⟨r.r,o,none⟩))).run P w=.ok x w/\VR ι v x:=by
  intro d l v a j i D hc;obtain ⟨r,I,e,fr,g,f,y,A⟩:=o8 s i;obtain ⟨x,hx,u⟩:=y.get D;exact ⟨v,x,r,hc,g,mD a j f (by simpa using hx),u⟩
 unfold wV at h;split at h
 ·rename_i F a;exact xg s i a (by simp [bI,a]) h
 ·rename_i n e a;exact xg s i a (by simp [bI,a]) h
 ·rename_i k a;have j:bI P t=false:=by simp [bI,a]
  split at h
  ·split at h
   ·rename_i E p;obtain ⟨n,g,f⟩:=au h;exact one a j i (by rw [rI p];simp [g]) f
   ·obtain ⟨q,g,f⟩:=au h;obtain ⟨n,rfl,f⟩:=au f;exact one a j i (TN g) f
  ·rename_i k' n l;obtain ⟨m,g,f⟩:=au h;obtain ⟨r,e,fr,C,B,G,J⟩:=uf s i;exact ⟨_,.int k' m,r,f,C,mD a j B (by simp [g]),by simp [VR]⟩
  ·cases h
 ·rename_i a;have j:bI P t=false:=by simp [bI,a]
  split at h
  ·split at h
   ·rename_i E p;obtain ⟨n,g,f⟩:=au h;exact one a j i (by rw [ru p];simp [g]) f
   ·obtain ⟨v,g,f⟩:=au h;exact one a j i g f
  ·cases h
 ·rename_i d g f y A a;have j:bI P t=false:=by
   simp only [bI,a];cases d<;>simp_all
  split at h
  ·obtain ⟨v,g,f⟩:=au h;exact one a j i g f
  ·cases h
 ·cases h
theorem Nb {α:Type} {ι:Inj} {w:World} {r o base:Nat} {s:Array Value} {e:TypeId} {fr:Nat×Nat} {l:List V} (C:w.heap[r]?=some (.cells s e fr))
  (B:VRs ι l ((s.toList.drop base).take l.length)) (D:base+l.length<=s.size) {t:TypeId} {c:V->Option α} {z:α} (h:wV P t (.cells l) o c=some z):
  ∃v x,c v=some z/\(Instr.loadAt t (.pointer (some ⟨r,base+o,none⟩))).run P w=.ok x w/\VR ι v x:=by
 have one:∀{d:TypeDesc} {v:V},P.underlying t=some d->bI P t=false->l[o]?=some v->c v=some z->
   ∃v x,c v=some z/\(Instr.loadAt t (.pointer (some ⟨r,base+o,none⟩))).run P w=.ok x w/\VR ι v x:=by
  intro d v a f u hc;obtain ⟨x,hx,p⟩:=B.get u;have A:o<l.length:=by
   rcases aF o l.length with m | m
   ·exact m
   ·rw [fX m] at u;cases u
  rw [ov A,ll] at hx;exact ⟨v,x,hc,mD a f C (by simpa using hx),p⟩
 have j:∀{d:TypeDesc},P.underlying t=some d->bI P t=true->oi P t (.cells l) o c=some z->
   ∃v x,c v=some z/\(Instr.loadAt t (.pointer (some ⟨r,base+o,none⟩))).run P w=.ok x w/\VR ι v x:=by
  intro d a f h;simp only [oi] at h;split at h
  ·rename_i y;have hle':=aG y;refine ⟨_,_,h,mF a f C (by omega),nN ?_⟩;have:=(B.drop o).take (P.cellsOf t);rw [wu,gV,yW,qJ (by omega)] at this;simpa using this
  ·cases h
 unfold wV at h;split at h
 ·rename_i H a;exact j a (by simp [bI,a]) h
 ·rename_i n e a;exact j a (by simp [bI,a]) h
 ·rename_i k a;have f:bI P t=false:=by simp [bI,a]
  simp only at h;split at h
  ·rename_i E i;obtain ⟨n,g,b⟩:=au h;exact one a f (by rw [rI i];simp [g]) b
  ·obtain ⟨q,g,b⟩:=au h;obtain ⟨n,rfl,b⟩:=au b;exact one a f (TN g) b
 ·rename_i a;have f:bI P t=false:=by simp [bI,a]
  simp only at h;split at h
  ·rename_i E i;obtain ⟨n,g,b⟩:=au h;exact one a f (by rw [ru i];simp [g]) b
  ·obtain ⟨v,g,b⟩:=au h;exact one a f g b
 ·rename_i d g b G F a;have f:bI P t=false:=by
   simp only [bI,a];cases d<;>simp_all
  simp only at h;obtain ⟨v,g,b⟩:=au h;exact one a f g b
 ·cases h
theorem Lf.inV_ok:∀{a:Lf} {v:V} {x:a.den},a.inV v=some x->v=a.toV x
 | .i k,v,x,h=>by
  cases v<;>simp only [Lf.inV] at h<;>try cases h
  split at h
  ·rename_i C;simp only [ak] at h;subst h;rw [jE C];rfl
  ·cases h
 | .bo,v,x,h=>by cases v<;>simp only [Lf.inV] at h<;>cases h;rfl
 | .s,v,x,h=>by cases v<;>simp only [Lf.inV] at h<;>cases h;rfl
theorem tX:∀{t:List Lf} {l:List V} {x:den t},uA t l=some x->l=cells t x
 | [],[],_,_=>rfl
 | [],_::_,_,h=>by simp [uA] at h
 | [a],[],_,h=>by simp [uA] at h
 | [a],[v],x,h=>by
  simp only [uA] at h;rw [Lf.inV_ok h];rfl
 | [a],_::_::_,_,h=>by simp [uA] at h
 | a::b::t,[],_,h=>by simp [uA] at h
 | a::b::t,v::vs,x,h=>by
  simp only [uA] at h;split at h
  ·rename_i y hy;split at h
   ·rename_i d c;simp only [ak] at h;subst h;rw [Lf.inV_ok hy,tX c];rfl
   ·cases h
  ·cases h
theorem Bc {t:List Lf}:∀{n:Nat} {l:List V} {m:List (den t)},Be t t.length n l=some m->l.length=n*t.length->m.length=n/\l=m.flatMap (cells t)
 | 0,l,m,h,a=>by
  simp only [Be,ak] at h;subst h;exact ⟨rfl,by simpa using a⟩
 | n+1,l,m,h,a=>by
  simp only [Be] at h;split at h
  ·rename_i x hx;split at h
   ·rename_i m' b;simp only [ak] at h;subst h;rw [fY] at a;obtain ⟨d,c⟩:=Bc b (by rw [cu];omega);refine ⟨by simp [d],?_⟩;rw [pB,<-tX hx,<-c,rc]
   ·cases h
  ·cases h
theorem D2 (ι:Inj) {t:List Lf}:∀(m:List (den t)) (a:List Value),VRs ι (m.flatMap (cells t)) a->a=m.flatMap (vals t)
 | [],a,h=>by simpa [VRs] using h
 | x::m,a,h=>by
  rw [pB] at h ⊢;have c:=h.take t.length;have b:=h.drop t.length;rw [sV (by rw [jq];exact aQ _),jc (by rw [jq];exact aQ _)] at c;rw [E0,iD (by rw [jq];exact aQ _),jq] at b;simp only [yK,cg,dn] at b;rw [<-(jr ι t x _).1 c,<-D2 ι m _ b,rc]
end Go.Abs
