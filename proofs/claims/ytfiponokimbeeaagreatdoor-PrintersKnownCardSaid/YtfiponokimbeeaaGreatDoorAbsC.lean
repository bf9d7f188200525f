
/- What the abstract effect of an operation says of the model's own operation: the parts of it.
   Conditions: none; generic over the program. -/
import Derived.Test.YtfiponokimbeeaaGreatDoorAbsB
import Derived.Laws.Entries
import Derived.Laws.Cells
set_option linter.unusedSimpArgs false
set_option linter.unusedVariables false
namespace Go.Abs
variable {P:Program}
theorem mW {t:TypeId} {d:TypeDesc} (h:P.underlying t=some d):∃i,P.info? t=some i:=by
 unfold Program.underlying at h;cases hi:P.info? t with
 | none=>simp [hi] at h
 | some i=>exact ⟨i,rfl⟩
theorem bZ {t:TypeId} (h:Nat.blt 0 (P.cellsOf t)=true):∃i,P.info? t=some i:=by
 unfold Program.cellsOf at h;cases hi:P.info? t with
 | none=>simp [hi] at h
 | some i=>exact ⟨i,rfl⟩
theorem gj {t:TypeId} {i:TypeInfo} (h:P.info? t=some i) (w:World):(sizeOf t).run P w=.ok (P.cellsOf t) w:=by
 simp [sizeOf,typeInfo,h,Program.cellsOf]
theorem kA {t:TypeId} {d:TypeDesc} (h:P.underlying t=some d) (w:World):(isAgg t).run P w=.ok (bW P t) w:=by
 unfold isAgg bW;rw [h];simp only [aw,aV h,ay];cases d<;>rfl
theorem Ci (ι:Inj) {x:Value} {v:V} (h:F3 x=some v):VR ι v x/\x.cells=#[x]/\oneV v=true:=by
 unfold F3 at h;split at h<;>simp_all [Value.cells]
 all_goals (subst h;simp [VR,oneV,Value.cells,Value.oneCell'])
theorem yT (ι:Inj):∀{a:List Value} {l:List V},xq a=some l->VRs ι l a
 | [],_,h=>by simp only [xq,au] at h;subst h;simp [VRs]
 | x::a,l,h=>by
  simp only [xq] at h;split at h
  ·rename_i v c;split at h
   ·rename_i m b;simp only [au] at h;subst h;simp only [VRs];exact ⟨x,a,rfl,(Ci ι c).1,yT ι b⟩
   ·cases h
  ·cases h
theorem Hk (ι:Inj) {x:Value} {v:V} (h:Pj x=some v):VR ι v x:=by
 unfold Pj at h;split at h
 ·split at h
  ·rename_i a;simp only [au] at h;subst h;simp only [VR];exact ⟨_,rfl,yT ι a⟩
  ·cases h
 ·exact (Ci ι h).1
theorem tZ {k:IntKind}:∀{l:List V} {b:List Int},zK k l=some b->l=b.map (V.i k)
 | [],_,h=>by simp only [zK,au] at h;subst h;rfl
 | v::l,b,h=>by
  unfold zK at h;split at h<;>rename_i a
  ·cases a
  ·injection a with h1 h2;subst h1 h2;split at h
   ·rename_i d;split at h
    ·rename_i m c;simp only [au] at h;subst h;rw [tZ c,kY d];rfl
    ·cases h
   ·cases h
  ·cases h
theorem tO:∀{l:List V} {b:List (aa)},zl l=some b->l=b.map V.s
 | [],_,h=>by simp only [zl,au] at h;subst h;rfl
 | v::l,b,h=>by
  unfold zl at h;split at h<;>rename_i a
  ·cases a
  ·injection a with h1 h2;subst h1 h2;split at h
   ·rename_i m c;simp only [au] at h;subst h;rw [tO c];rfl
   ·cases h
  ·cases h
theorem VRs.of_ints {ι:Inj} {k:IntKind}:∀{E:List Int} {C:List Value},VRs ι (E.map (V.i k)) C->C=E.map (Value.int k)
 | [],_,h=>by simpa [VRs] using h
 | x::E,C,h=>by
  simp only [fX,VRs,VR] at h;obtain ⟨y,G,rfl,rfl,F⟩:=h;simp [VRs.of_ints F]
theorem pU {ι:Inj} {t:TypeId} {l:List V} {a:Array Value} (h:VRs ι l a.toList):VR ι (B6 P t l) (.agg a):=by
 unfold B6;split
 ·split
  ·rename_i hx;rw [tZ hx] at h;simp only [VR,jI];have:=VRs.of_ints h;rw [Value.agg.injEq];apply ll;simpa using this
  ·simp only [VR];exact ⟨a,rfl,h⟩
 ·simp only [VR];exact ⟨a,rfl,h⟩
theorem Td {ι:Inj} {t:TypeId} {v:V} {x:Value} (h:VR ι v x):VR ι (norm P t v) x:=by
 cases v<;>simp only [norm]<;>try exact h
 simp only [VR] at h;obtain ⟨a,rfl,h⟩:=h;exact pU h
theorem sX (n:Nat):NF (0,0) n:=by
 intro j _ h;simp at h
theorem GG {ι:Inj} {q:Rf} {v:V} {x:Value} (h:VR ι v x) (t:TypeId):BR ι q (On v) (.cells x.cells t):=by
 have one:∀{v:V} {x:Value},VR ι v x->x.cells=#[x]->BR ι q (.cells [v]) (.cells x.cells t):=by
  intro v x h hx;rw [hx];exact ⟨_,_,_,rfl,by simp only [VRs];exact ⟨x,[],rfl,h,rfl⟩,sX _⟩
 cases v with
 | ag l=>
  simp only [VR] at h;obtain ⟨a,rfl,h⟩:=h;exact ⟨a,t,(0,0),rfl,h,sX _⟩
 | ai k n l=>
  simp only [VR] at h;obtain ⟨b,rfl⟩:=h;exact ⟨t,(0,0),rfl,b,sX _⟩
 | _=>
  simp only [On];refine one h ?_;simp only [VR] at h
  first
   | (rcases h with ⟨_,_,rfl⟩ | ⟨_,_,rfl⟩<;>rfl)
   | (rcases h with ⟨_,_,_,_,_,_,rfl⟩ | ⟨_,_,_,rfl⟩<;>rfl)
   | (subst h;rfl)
   | (obtain ⟨a,h,_⟩:=h;obtain ⟨_,_,_,e⟩:=y6 _ a;rw [h,e];rfl)
   | (obtain ⟨_,rfl,_⟩:=h;rfl)
   | (obtain ⟨_,_,rfl⟩:=h;rfl)
   | (obtain ⟨_,_,_,_,_,rfl⟩:=h;rfl)
   | exact h.1
theorem xo (k:IntKind) (l:List Int):∀(n j:Nat),t7 k l n j=(List.range n).map λi=>V.i k (l.getD (j+i) 0)
 | 0,_=>rfl
 | n+1,j=>by
  simp only [t7,xo k l n (j+1),List.range_succ_eq_map,fX,sJ,cN];congr 1;apply List.map_congr_left;intro i _;simp [gY,pi 1 i]
theorem DX (k:IntKind) {l:List Int} {n:Nat} (h:l.length=n):t7 k l n 0=l.map (V.i k):=by
 rw [xo];apply D2;intro i;by_cases hi:i<n
 ·simp [hi,h▸hi,List.getD]
 ·simp [hi,gW (Nat.le_of_not_lt (h▸hi))]
theorem nr {ι:Inj} {v:V} {x:Value} (h:VR ι v x):VRs ι (cellsOf v) x.cells.toList:=by
 have one:∀{v:V} {x:Value},VR ι v x->x.cells=#[x]->VRs ι [v] x.cells.toList:=by
  intro v x h hx;rw [hx];simp only [VRs];exact ⟨x,[],rfl,h,rfl⟩
 cases v with
 | ag l=>
  simp only [VR] at h;obtain ⟨a,rfl,h⟩:=h;exact h
 | ai k n l=>
  simp only [VR] at h;obtain ⟨b,rfl⟩:=h;simp only [cellsOf,DX k b,Value.cells];exact VRs.ints k l
 | _=>
  simp only [cellsOf];refine one h ?_;simp only [VR] at h
  first
   | (rcases h with ⟨_,_,rfl⟩ | ⟨_,_,rfl⟩<;>rfl)
   | (rcases h with ⟨_,_,_,_,_,_,rfl⟩ | ⟨_,_,_,rfl⟩<;>rfl)
   | (subst h;rfl)
   | (obtain ⟨a,h,_⟩:=h;obtain ⟨_,_,_,e⟩:=y6 _ a;rw [h,e];rfl)
   | (obtain ⟨_,rfl,_⟩:=h;rfl)
   | (obtain ⟨_,_,rfl⟩:=h;rfl)
   | (obtain ⟨_,_,_,_,_,rfl⟩:=h;rfl)
   | exact h.1
theorem bu {ι:Inj} {T:List (Nat×Option V)} {a:Act} (b:TR ι T a.tmps) {x:Operand} {v:V} (h:opd T x=some v):VR ι v (a.eval x):=by
 cases x with
 | tmp t=>
  simp only [opd] at h;split at h
  ·rename_i u i;simp only [au] at h;subst h;obtain ⟨y,d,j⟩:=b t u i;simpa [Act.eval,qU,d] using j
  ·cases h
 | const c=>exact Hk ι h
 | func f=>
  simp only [opd] at h;split at h
  ·rename_i e;simp only [au] at h;subst h;simp only [VR,Act.eval];exact ⟨#[],(Fp e _).symm,by simp [VRs]⟩
  ·cases h
 | global g=>simp [opd] at h
theorem wO {ι:Inj} {T:List (Nat×Option V)} {a:Act} (c:TR ι T a.tmps):∀{b:List Operand} {l:List V},opds (opd T) b=some l->VRs ι l (b.map a.eval)
 | [],_,h=>by simp only [opds,au] at h;subst h;simp [VRs]
 | x::b,l,h=>by
  simp only [opds] at h;split at h
  ·rename_i v d;split at h
   ·rename_i m e;simp only [au] at h;subst h;simp only [fX,VRs];exact ⟨_,_,rfl,bu c d,wO c e⟩
   ·cases h
  ·cases h
theorem C6 {ι:Inj} {v:V} {x:Value} (h:VR ι v x) (a:oneV v=true):x.oneCell'=true:=by
 cases v<;>simp only [oneV,br] at a<;>simp only [VR] at h<;>first
  | (rcases h with ⟨_,_,rfl⟩ | ⟨_,_,rfl⟩<;>rfl)
  | (rcases h with ⟨_,_,_,_,_,_,rfl⟩ | ⟨_,_,_,rfl⟩<;>rfl)
  | (subst h;rfl)
  | (obtain ⟨b,h,_⟩:=h;obtain ⟨_,_,_,e⟩:=y6 _ b;rw [h,e];rfl)
  | (obtain ⟨_,rfl,_⟩:=h;rfl)
  | (obtain ⟨_,_,rfl⟩:=h;rfl)
  | (obtain ⟨_,_,_,_,_,rfl⟩:=h;rfl)
  | exact h.2
theorem qN {ι:Inj} {H:List (Nat×Blk)} {nb b:Nat} {w:World} (g:WR ι H nb w) {l:List V} (f:look H b=some (.cells l)):
  ∃r a e fr,ι b=some (some r)/\w.heap[r.r]?=some (.cells a e fr)/\VRs ι l a.toList/\NF fr a.size:=by
 obtain ⟨r,o,d,h,a,e,fr,rfl,c,i⟩:=(g.blk b _ f (by simp)).real (by simp);exact ⟨r,a,e,fr,d,h,c,i⟩
theorem vF {ι:Inj} {H:List (Nat×Blk)} {nb b:Nat} {w:World} (f:WR ι H nb w) {k:IntKind} {n:Nat} {l:List Int} (d:look H b=some (.ints k n l)):
  ∃r e fr,ι b=some (some r)/\w.heap[r.r]?=some (.cells (l.map (Value.int k)).toArray e fr)/\l.length=n/\NF fr n:=by
 obtain ⟨r,o,c,g,e,fr,rfl,a,h⟩:=(f.blk b _ d (by simp)).real (by simp);exact ⟨r,e,fr,c,g,a,h⟩
theorem jA {ι:Inj} {H:List (Nat×Blk)} {nb b:Nat} {w:World} (h:WR ι H nb w) {t:List Lf} {l:List (den t)} (g:look H b=some (.rows t l)):
  (∃r a e fr,ι b=some (some r)/\w.heap[r.r]?=some (.cells a e fr)/\l.length=r.n/\r.n<=r.k/\r.o+r.k*t.length<=a.size/\(a.toList.drop r.o).take (l.length*t.length)=l.flatMap (vals t)/\(r.fz=true\/NF fr a.size))\/
  (ι b=some none/\l=[]):=by
 rcases h.blk b _ g (by simp) with ⟨r,o,d,f,a,e,fr,rfl,c⟩ | ⟨d,i,f⟩
 ·exact .inl ⟨r,a,e,fr,d,f,c⟩
 ·injection f with c h4;subst c;exact .inr ⟨d,eq_of_heq h4⟩
theorem n9 {t:List Lf}:∀(l:List (den t)),(l.flatMap (vals t)).length=l.length*t.length
 | []=>by simp
 | x::l=>by simp [qi,ke,n9 l,gU,pi]
theorem JP {t:List Lf}:∀(l:List (den t)) (j:Nat) (x:den t),l[j]?=some x->((l.flatMap (vals t)).drop (j*t.length)).take t.length=vals t x
 | [],j,x,h=>by simp at h
 | y::l,0,x,h=>by
  simp only [mB,au] at h;subst h;simp only [Aw,cM,qi];rw [uJ (by rw [ke];exact aY _),i7 (by rw [ke];exact aY _)]
 | y::l,j+1,x,h=>by
  simp only [HF] at h;simp only [qi];rw [show (j+1)*t.length=(vals t y).length+j*t.length by rw [ke,gU];omega,G9,jm (by omega)];simp only [Ep,eK];exact JP l j x h
theorem QM {t:List Lf} {l:List (den t)} {e:Array Value} {o:Nat} (h:(e.toList.drop o).take (l.length*t.length)=l.flatMap (vals t)) {j:Nat} {x:den t} (b:l[j]?=some x):
  (e.toList.drop (o+j*t.length)).take t.length=vals t x/\j*t.length+t.length<=l.length*t.length:=by
 have a:j<l.length:=by
  rcases aH j l.length with c | c
  ·exact c
  ·rw [gW c] at b;cases b
 have d:j*t.length+t.length<=l.length*t.length:=by
  have:=ot t.length (show j+1<=l.length from a);rw [gU] at this;omega
 refine ⟨?_,d⟩;have f:=JP l j x b;rw [<-h,wu,Ac,sO (by omega),iR] at f;exact f
theorem og {t:TypeId} {d:TypeDesc} (b:P.underlying t=some d) (c:bW P t=false) {w:World} {r o:Nat} {a:Array Value} {e:TypeId} {fr:Nat×Nat}
  (h:w.heap[r]?=some (.cells a e fr)) {x:Value} (hx:a[o]?=some x):(Instr.loadAt t (.pointer (some ⟨r,o,none⟩))).run P w=.ok x w:=by
 simp only [Instr.loadAt,Instr.sureAddr,loadVar,aw,aD,ay,kA b,c,br,aA,run_load,bp h,hx]
theorem oi {t:TypeId} {d:TypeDesc} (g:P.underlying t=some d) (m:bW P t=true) {w:World} {r o:Nat} {b:Array Value} {e:TypeId} {fr:Nat×Nat}
  (h:w.heap[r]?=some (.cells b e fr)) (n:o+P.cellsOf t<=b.size):
  (Instr.loadAt t (.pointer (some ⟨r,o,none⟩))).run P w=.ok (.agg ((b.toList.drop o).take (P.cellsOf t)).toArray) w:=by
 obtain ⟨i,hi⟩:=mW g;have a:((b.toList.drop o).take (P.cellsOf t)).length=P.cellsOf t:=by simp;omega
 have hc:=xL (P:=P) w ⟨r,o,none⟩ ((b.toList.drop o).take (P.cellsOf t)) (λj v c=>by
  have f:j<P.cellsOf t:=by
   rcases aH j (P.cellsOf t) with k | k
   ·exact k
   ·rw [gW (by omega)] at c;cases c
  rw [qf f,mL] at c;have:(⟨r,o,none⟩:Addr).add j=⟨r,o+j,none⟩:=by
   unfold Addr.add;split
   ·rename_i l;subst l;rfl
   ·rfl
  rw [this,bp h];simpa using c)
 rw [a] at hc;simp only [Instr.loadAt,Instr.sureAddr,loadVar,aw,aD,ay,kA g,m,aJ,gj hi,hc]
theorem zt {α:Type} {ι:Inj} {H:List (Nat×Blk)} {nb b o:Nat} {w:World} (l:WR ι H nb w) {blk:Blk} (k:look H b=some blk) {t:TypeId} {d:TypeDesc}
  (m:P.underlying t=some d) (n:bW P t=true) {c:V->Option α} {z:α} (h:pt P t blk o c=some z):
  ∃v x r,c v=some z/\ι b=some (some r)/\(Instr.loadAt t (.pointer (some ⟨r.r,o,none⟩))).run P w=.ok x w/\VR ι v x:=by
 unfold pt at h;split at h
 ·split at h
  ·rename_i i;have hle':=aI i;obtain ⟨r,p,e,fr,g,j,f,u⟩:=qN l k;have q:=f.length;have hsz':p.size=p.toList.length:=by simp
   exact ⟨_,_,r,h,g,oi m n j (by omega),pU (by simpa using (f.drop o).take _)⟩
  ·cases h
 ·split at h
  ·rename_i a;simp only [az,jt] at a;obtain ⟨rfl,s⟩:=a;obtain ⟨r,e,fr,g,j,f,u⟩:=vF l k;refine ⟨_,_,r,h,g,oi m n j (by simp;omega),?_⟩;simp only [VR];refine ⟨f,?_⟩;rw [Value.agg.injEq];apply ll;simp only [cM];exact i7 (by simp;omega)
  ·cases h
 ·cases h
theorem V3 {k:IntKind} {l:List V} {o:Nat} {n:Int} (h:(l.map (tI k))[o]?=some (some n)):l[o]?=some (.i k n):=by
 rw [mO] at h;cases a:l[o]? with
 | none=>rw [a] at h;cases h
 | some v=>
  rw [a] at h;simp only [eX,au] at h;unfold tI at h;split at h
  ·split at h
   ·rename_i b;rw [kY b];simp only [au] at h;rw [h]
   ·cases h
  ·cases h
theorem HW {α:Type} {ι:Inj} {H:List (Nat×Blk)} {nb b o:Nat} {w:World} (s:WR ι H nb w) {blk:Blk} (i:look H b=some blk) {t:TypeId}
  {c:V->Option α} {z:α} (h:yD P t blk o c=some z):
  ∃v x r,c v=some z/\ι b=some (some r)/\(Instr.loadAt t (.pointer (some ⟨r.r,o,none⟩))).run P w=.ok x w/\VR ι v x:=by
 have one:∀{d:TypeDesc} {l:List V} {v:V},P.underlying t=some d->bW P t=false->look H b=some (.cells l)->l[o]?=some v->c v=some z->
   ∃v x r,c v=some z/\ι b=some (some r)/\(Instr.loadAt t (.pointer (some ⟨r.r,o,none⟩))).run P w=.ok x w/\VR ι v x:=by
  intro d l v a j i D hc;obtain ⟨r,G,e,fr,g,f,y,E⟩:=qN s i;obtain ⟨x,hx,u⟩:=y.get D;exact ⟨v,x,r,hc,g,og a j f (by simpa using hx),u⟩
 unfold yD at h;split at h
 ·rename_i F a;exact zt s i a (by simp [bW,a]) h
 ·rename_i n e a;exact zt s i a (by simp [bW,a]) h
 ·rename_i k a;have j:bW P t=false:=by simp [bW,a]
  split at h
  ·split at h
   ·rename_i C p;obtain ⟨n,g,f⟩:=av h;exact one a j i (by rw [tZ p];simp [g]) f
   ·obtain ⟨q,g,f⟩:=av h;obtain ⟨n,rfl,f⟩:=av f;exact one a j i (V3 g) f
  ·rename_i k' n l;obtain ⟨m,g,f⟩:=av h;obtain ⟨r,e,fr,B,A,I,J⟩:=vF s i;exact ⟨_,.int k' m,r,f,B,og a j A (by simp [g]),by simp [VR]⟩
  ·cases h
 ·rename_i a;have j:bW P t=false:=by simp [bW,a]
  split at h
  ·split at h
   ·rename_i C p;obtain ⟨n,g,f⟩:=av h;exact one a j i (by rw [tO p];simp [g]) f
   ·obtain ⟨v,g,f⟩:=av h;exact one a j i g f
  ·cases h
 ·rename_i d g f y E a;have j:bW P t=false:=by
   simp only [bW,a];cases d<;>simp_all
  split at h
  ·obtain ⟨v,g,f⟩:=av h;exact one a j i g f
  ·cases h
 ·cases h
theorem Py {α:Type} {ι:Inj} {w:World} {r o base:Nat} {s:Array Value} {e:TypeId} {fr:Nat×Nat} {l:List V} (D:w.heap[r]?=some (.cells s e fr))
  (C:VRs ι l ((s.toList.drop base).take l.length)) (B:base+l.length<=s.size) {t:TypeId} {c:V->Option α} {z:α} (h:yD P t (.cells l) o c=some z):
  ∃v x,c v=some z/\(Instr.loadAt t (.pointer (some ⟨r,base+o,none⟩))).run P w=.ok x w/\VR ι v x:=by
 have one:∀{d:TypeDesc} {v:V},P.underlying t=some d->bW P t=false->l[o]?=some v->c v=some z->
   ∃v x,c v=some z/\(Instr.loadAt t (.pointer (some ⟨r,base+o,none⟩))).run P w=.ok x w/\VR ι v x:=by
  intro d v a f p hc;obtain ⟨x,hx,y⟩:=C.get p;have m:o<l.length:=by
   rcases aH o l.length with A | A
   ·exact A
   ·rw [gW A] at p;cases p
  rw [qf m,mL] at hx;exact ⟨v,x,hc,og a f D (by simpa using hx),y⟩
 have j:∀{d:TypeDesc},P.underlying t=some d->bW P t=true->pt P t (.cells l) o c=some z->
   ∃v x,c v=some z/\(Instr.loadAt t (.pointer (some ⟨r,base+o,none⟩))).run P w=.ok x w/\VR ι v x:=by
  intro d a f h;simp only [pt] at h;split at h
  ·rename_i u;have hle':=aI u;refine ⟨_,_,h,oi a f D (by omega),pU ?_⟩;have:=(C.drop o).take (P.cellsOf t);rw [wu,iR,Ac,sO (by omega)] at this;simpa using this
  ·cases h
 unfold yD at h;split at h
 ·rename_i H a;exact j a (by simp [bW,a]) h
 ·rename_i n e a;exact j a (by simp [bW,a]) h
 ·rename_i k a;have f:bW P t=false:=by simp [bW,a]
  simp only at h;split at h
  ·rename_i E i;obtain ⟨n,g,b⟩:=av h;exact one a f (by rw [tZ i];simp [g]) b
  ·obtain ⟨q,g,b⟩:=av h;obtain ⟨n,rfl,b⟩:=av b;exact one a f (V3 g) b
 ·rename_i a;have f:bW P t=false:=by simp [bW,a]
  simp only at h;split at h
  ·rename_i E i;obtain ⟨n,g,b⟩:=av h;exact one a f (by rw [tO i];simp [g]) b
  ·obtain ⟨v,g,b⟩:=av h;exact one a f g b
 ·rename_i d g b F G a;have f:bW P t=false:=by
   simp only [bW,a];cases d<;>simp_all
  simp only at h;obtain ⟨v,g,b⟩:=av h;exact one a f g b
 ·cases h
theorem Lf.inV_ok:∀{a:Lf} {v:V} {x:a.den},a.inV v=some x->v=a.toV x
 | .i k,v,x,h=>by
  cases v<;>simp only [Lf.inV] at h<;>try cases h
  split at h
  ·rename_i C;simp only [au] at h;subst h;rw [kY C];rfl
  ·cases h
 | .bo,v,x,h=>by cases v<;>simp only [Lf.inV] at h<;>cases h;rfl
 | .s,v,x,h=>by cases v<;>simp only [Lf.inV] at h<;>cases h;rfl
theorem wb:∀{t:List Lf} {l:List V} {x:den t},yc t l=some x->l=cells t x
 | [],[],_,_=>rfl
 | [],_::_,_,h=>by simp [yc] at h
 | [a],[],_,h=>by simp [yc] at h
 | [a],[v],x,h=>by
  simp only [yc] at h;rw [Lf.inV_ok h];rfl
 | [a],_::_::_,_,h=>by simp [yc] at h
 | a::b::t,[],_,h=>by simp [yc] at h
 | a::b::t,v::vs,x,h=>by
  simp only [yc] at h;split at h
  ·rename_i y hy;split at h
   ·rename_i d c;simp only [au] at h;subst h;rw [Lf.inV_ok hy,wb c];rfl
   ·cases h
  ·cases h
theorem Ee {t:List Lf}:∀{n:Nat} {l:List V} {m:List (den t)},Dz t t.length n l=some m->l.length=n*t.length->m.length=n/\l=m.flatMap (cells t)
 | 0,l,m,h,a=>by
  simp only [Dz,au] at h;subst h;exact ⟨rfl,by simpa using a⟩
 | n+1,l,m,h,a=>by
  simp only [Dz] at h;split at h
  ·rename_i x hx;split at h
   ·rename_i m' d;simp only [au] at h;subst h;rw [gU] at a;obtain ⟨b,c⟩:=Ee d (by rw [bR];omega);refine ⟨by simp [b],?_⟩;rw [qi,<-wb hx,<-c,uo]
   ·cases h
  ·cases h
theorem Gs (ι:Inj) {t:List Lf}:∀(m:List (den t)) (a:List Value),VRs ι (m.flatMap (cells t)) a->a=m.flatMap (vals t)
 | [],a,h=>by simpa [VRs] using h
 | x::m,a,h=>by
  rw [qi] at h ⊢;have c:=h.take t.length;have b:=h.drop t.length;rw [uJ (by rw [kO];exact aY _),i7 (by rw [kO];exact aY _)] at c;rw [G9,jm (by rw [kO];exact aY _),kO] at b;simp only [Bh,cM,eK] at b;rw [<-(nZ ι t x _).1 c,<-Gs ι m _ b,uo]
end Go.Abs
