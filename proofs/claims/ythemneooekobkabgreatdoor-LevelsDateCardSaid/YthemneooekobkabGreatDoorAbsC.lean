
/- What the abstract effect of an operation says of the model's own operation: the parts of it.
   Conditions: none; generic over the program. -/
import Derived.Test.YthemneooekobkabGreatDoorAbsB
import Derived.Laws.Entries
import Derived.Laws.Cells
set_option linter.unusedSimpArgs false
set_option linter.unusedVariables false
namespace Go.Abs
variable {P:Program}
theorem nk {t:TypeId} {d:TypeDesc} (h:P.underlying t=some d):∃i,P.info? t=some i:=by
 unfold Program.underlying at h;cases hi:P.info? t with
 | none=>simp [hi] at h
 | some i=>exact ⟨i,rfl⟩
theorem ca {t:TypeId} (h:Nat.blt 0 (P.cellsOf t)=true):∃i,P.info? t=some i:=by
 unfold Program.cellsOf at h;cases hi:P.info? t with
 | none=>simp [hi] at h
 | some i=>exact ⟨i,rfl⟩
theorem gi {t:TypeId} {i:TypeInfo} (h:P.info? t=some i) (w:World):(sizeOf t).run P w=.ok (P.cellsOf t) w:=by
 simp [sizeOf,typeInfo,h,Program.cellsOf]
theorem kq {t:TypeId} {d:TypeDesc} (h:P.underlying t=some d) (w:World):(isAgg t).run P w=.ok (bY P t) w:=by
 unfold isAgg bY;rw [h];simp only [ax,aZ h,az];cases d<;>rfl
theorem Eh (ι:Inj) {x:Value} {v:V} (h:ID x=some v):VR ι v x/\x.cells=#[x]/\oneV v=true:=by
 unfold ID at h;split at h<;>simp_all [Value.cells]
 all_goals (subst h;simp [VR,oneV,Value.cells,Value.oneCell'])
theorem zD (ι:Inj):∀{a:List Value} {l:List V},xm a=some l->VRs ι l a
 | [],_,h=>by simp only [xm,av] at h;subst h;simp [VRs]
 | x::a,l,h=>by
  simp only [xm] at h;split at h
  ·rename_i v b;split at h
   ·rename_i m c;simp only [av] at h;subst h;simp only [VRs];exact ⟨x,a,rfl,(Eh ι b).1,zD ι c⟩
   ·cases h
  ·cases h
theorem Ik (ι:Inj) {x:Value} {v:V} (h:OD x=some v):VR ι v x:=by
 unfold OD at h;split at h
 ·split at h
  ·rename_i a;simp only [av] at h;subst h;simp only [VR];exact ⟨_,rfl,zD ι a⟩
  ·cases h
 ·exact (Eh ι h).1
theorem ul {k:IntKind}:∀{l:List V} {b:List Int},zn k l=some b->l=b.map (V.i k)
 | [],_,h=>by simp only [zn,av] at h;subst h;rfl
 | v::l,b,h=>by
  unfold zn at h;split at h<;>rename_i a
  ·cases a
  ·injection a with h1 h2;subst h1 h2;split at h
   ·rename_i c;split at h
    ·rename_i m d;simp only [av] at h;subst h;rw [ul d,kG c];rfl
    ·cases h
   ·cases h
  ·cases h
theorem uM:∀{l:List V} {b:List (aa)},zM l=some b->l=b.map V.s
 | [],_,h=>by simp only [zM,av] at h;subst h;rfl
 | v::l,b,h=>by
  unfold zM at h;split at h<;>rename_i a
  ·cases a
  ·injection a with h1 h2;subst h1 h2;split at h
   ·rename_i m c;simp only [av] at h;subst h;rw [uM c];rfl
   ·cases h
  ·cases h
theorem VRs.of_ints {ι:Inj} {k:IntKind}:∀{C:List Int} {E:List Value},VRs ι (C.map (V.i k)) E->E=C.map (Value.int k)
 | [],_,h=>by simpa [VRs] using h
 | x::C,E,h=>by
  simp only [fV,VRs,VR] at h;obtain ⟨y,G,rfl,rfl,F⟩:=h;simp [VRs.of_ints F]
theorem qz {ι:Inj} {t:TypeId} {l:List V} {a:Array Value} (h:VRs ι l a.toList):VR ι (Ek P t l) (.agg a):=by
 unfold Ek;split
 ·split
  ·rename_i hx;rw [ul hx] at h;simp only [VR,jG];have:=VRs.of_ints h;rw [Value.agg.injEq];apply lh;simpa using this
  ·simp only [VR];exact ⟨a,rfl,h⟩
 ·simp only [VR];exact ⟨a,rfl,h⟩
theorem RR {ι:Inj} {t:TypeId} {v:V} {x:Value} (h:VR ι v x):VR ι (norm P t v) x:=by
 cases v<;>simp only [norm]<;>try exact h
 simp only [VR] at h;obtain ⟨a,rfl,h⟩:=h;exact qz h
theorem ta (n:Nat):NF (0,0) n:=by
 intro j _ h;simp at h
theorem IC {ι:Inj} {q:Rf} {v:V} {x:Value} (h:VR ι v x) (t:TypeId):BR ι q (OO v) (.cells x.cells t):=by
 have one:∀{v:V} {x:Value},VR ι v x->x.cells=#[x]->BR ι q (.cells [v]) (.cells x.cells t):=by
  intro v x h hx;rw [hx];exact ⟨_,_,_,rfl,by simp only [VRs];exact ⟨x,[],rfl,h,rfl⟩,ta _⟩
 cases v with
 | ag l=>
  simp only [VR] at h;obtain ⟨a,rfl,h⟩:=h;exact ⟨a,t,(0,0),rfl,h,ta _⟩
 | ai k n l=>
  simp only [VR] at h;obtain ⟨b,rfl⟩:=h;exact ⟨t,(0,0),rfl,b,ta _⟩
 | _=>
  simp only [OO];refine one h ?_;simp only [VR] at h
  first
   | (rcases h with ⟨_,_,rfl⟩ | ⟨_,_,rfl⟩<;>rfl)
   | (rcases h with ⟨_,_,_,_,_,_,rfl⟩ | ⟨_,_,_,rfl⟩<;>rfl)
   | (subst h;rfl)
   | (obtain ⟨a,h,_⟩:=h;obtain ⟨_,_,_,e⟩:=zA _ a;rw [h,e];rfl)
   | (obtain ⟨_,rfl,_⟩:=h;rfl)
   | (obtain ⟨_,_,rfl⟩:=h;rfl)
   | (obtain ⟨_,_,_,_,_,rfl⟩:=h;rfl)
   | exact h.1
theorem xb (k:IntKind) (l:List Int):∀(n j:Nat),uE k l n j=(List.range n).map λi=>V.i k (l.getD (j+i) 0)
 | 0,_=>rfl
 | n+1,j=>by
  simp only [uE,xb k l n (j+1),List.range_succ_eq_map,fV,tO,cP];congr 1;apply List.map_congr_left;intro i _;simp [ib,qb 1 i]
theorem Ey (k:IntKind) {l:List Int} {n:Nat} (h:l.length=n):uE k l n 0=l.map (V.i k):=by
 rw [xb];apply CS;intro i;by_cases hi:i<n
 ·simp [hi,h▸hi,List.getD]
 ·simp [hi,gU (Nat.le_of_not_lt (h▸hi))]
theorem nF {ι:Inj} {v:V} {x:Value} (h:VR ι v x):VRs ι (cellsOf v) x.cells.toList:=by
 have one:∀{v:V} {x:Value},VR ι v x->x.cells=#[x]->VRs ι [v] x.cells.toList:=by
  intro v x h hx;rw [hx];simp only [VRs];exact ⟨x,[],rfl,h,rfl⟩
 cases v with
 | ag l=>
  simp only [VR] at h;obtain ⟨a,rfl,h⟩:=h;exact h
 | ai k n l=>
  simp only [VR] at h;obtain ⟨b,rfl⟩:=h;simp only [cellsOf,Ey k b,Value.cells];exact VRs.ints k l
 | _=>
  simp only [cellsOf];refine one h ?_;simp only [VR] at h
  first
   | (rcases h with ⟨_,_,rfl⟩ | ⟨_,_,rfl⟩<;>rfl)
   | (rcases h with ⟨_,_,_,_,_,_,rfl⟩ | ⟨_,_,_,rfl⟩<;>rfl)
   | (subst h;rfl)
   | (obtain ⟨a,h,_⟩:=h;obtain ⟨_,_,_,e⟩:=zA _ a;rw [h,e];rfl)
   | (obtain ⟨_,rfl,_⟩:=h;rfl)
   | (obtain ⟨_,_,rfl⟩:=h;rfl)
   | (obtain ⟨_,_,_,_,_,rfl⟩:=h;rfl)
   | exact h.1
theorem bA {ι:Inj} {T:List (Nat×Option V)} {a:Act} (b:TR ι T a.tmps) {x:Operand} {v:V} (h:opd T x=some v):VR ι v (a.eval x):=by
 cases x with
 | tmp t=>
  simp only [opd] at h;split at h
  ·rename_i u e;simp only [av] at h;subst h;obtain ⟨y,j,i⟩:=b t u e;simpa [Act.eval,rK,j] using i
  ·cases h
 | const c=>exact Ik ι h
 | func f=>
  simp only [opd] at h;split at h
  ·rename_i d;simp only [av] at h;subst h;simp only [VR,Act.eval];exact ⟨#[],(Gl d _).symm,by simp [VRs]⟩
  ·cases h
 | global g=>simp [opd] at h
theorem yL {ι:Inj} {T:List (Nat×Option V)} {a:Act} (c:TR ι T a.tmps):∀{b:List Operand} {l:List V},opds (opd T) b=some l->VRs ι l (b.map a.eval)
 | [],_,h=>by simp only [opds,av] at h;subst h;simp [VRs]
 | x::b,l,h=>by
  simp only [opds] at h;split at h
  ·rename_i v d;split at h
   ·rename_i m e;simp only [av] at h;subst h;simp only [fV,VRs];exact ⟨_,_,rfl,bA c d,yL c e⟩
   ·cases h
  ·cases h
theorem EJ {ι:Inj} {v:V} {x:Value} (h:VR ι v x) (a:oneV v=true):x.oneCell'=true:=by
 cases v<;>simp only [oneV,bw] at a<;>simp only [VR] at h<;>first
  | (rcases h with ⟨_,_,rfl⟩ | ⟨_,_,rfl⟩<;>rfl)
  | (rcases h with ⟨_,_,_,_,_,_,rfl⟩ | ⟨_,_,_,rfl⟩<;>rfl)
  | (subst h;rfl)
  | (obtain ⟨b,h,_⟩:=h;obtain ⟨_,_,_,e⟩:=zA _ b;rw [h,e];rfl)
  | (obtain ⟨_,rfl,_⟩:=h;rfl)
  | (obtain ⟨_,_,rfl⟩:=h;rfl)
  | (obtain ⟨_,_,_,_,_,rfl⟩:=h;rfl)
  | exact h.2
theorem ru {ι:Inj} {H:List (Nat×Blk)} {nb b:Nat} {w:World} (h:WR ι H nb w) {l:List V} (d:look H b=some (.cells l)):
  ∃r a e fr,ι b=some (some r)/\w.heap[r.r]?=some (.cells a e fr)/\VRs ι l a.toList/\NF fr a.size:=by
 obtain ⟨r,o,i,f,a,e,fr,rfl,c,g⟩:=(h.blk b _ d (by simp)).real (by simp);exact ⟨r,a,e,fr,i,f,c,g⟩
theorem wz {ι:Inj} {H:List (Nat×Blk)} {nb b:Nat} {w:World} (g:WR ι H nb w) {k:IntKind} {n:Nat} {l:List Int} (c:look H b=some (.ints k n l)):
  ∃r e fr,ι b=some (some r)/\w.heap[r.r]?=some (.cells (l.map (Value.int k)).toArray e fr)/\l.length=n/\NF fr n:=by
 obtain ⟨r,o,h,d,e,fr,rfl,a,f⟩:=(g.blk b _ c (by simp)).real (by simp);exact ⟨r,e,fr,h,d,a,f⟩
theorem jz {ι:Inj} {H:List (Nat×Blk)} {nb b:Nat} {w:World} (h:WR ι H nb w) {t:List Lf} {l:List (den t)} (g:look H b=some (.rows t l)):
  (∃r a e fr,ι b=some (some r)/\w.heap[r.r]?=some (.cells a e fr)/\l.length=r.n/\r.n<=r.k/\r.o+r.k*t.length<=a.size/\(a.toList.drop r.o).take (l.length*t.length)=l.flatMap (vals t)/\(r.fz=true\/NF fr a.size))\/
  (ι b=some none/\l=[]):=by
 rcases h.blk b _ g (by simp) with ⟨r,o,c,d,a,e,fr,rfl,f⟩ | ⟨c,i,d⟩
 ·exact .inl ⟨r,a,e,fr,c,d,f⟩
 ·injection d with f h4;subst f;exact .inr ⟨c,eq_of_heq h4⟩
theorem om {t:List Lf}:∀(l:List (den t)),(l.flatMap (vals t)).length=l.length*t.length
 | []=>by simp
 | x::l=>by simp [ou,jZ,om l,gW,qb]
theorem MB {t:List Lf}:∀(l:List (den t)) (j:Nat) (x:den t),l[j]?=some x->((l.flatMap (vals t)).drop (j*t.length)).take t.length=vals t x
 | [],j,x,h=>by simp at h
 | y::l,0,x,h=>by
  simp only [mz,av] at h;subst h;simp only [CB,cw,ou];rw [vq (by rw [jZ];exact aV _),jf (by rw [jZ];exact aV _)]
 | y::l,j+1,x,h=>by
  simp only [G3] at h;simp only [ou];rw [show (j+1)*t.length=(vals t y).length+j*t.length by rw [jZ,gW];omega,IL,jE (by omega)];simp only [GA,dJ];exact MB l j x h
theorem Q0 {t:List Lf} {l:List (den t)} {f:Array Value} {o:Nat} (h:(f.toList.drop o).take (l.length*t.length)=l.flatMap (vals t)) {j:Nat} {x:den t} (b:l[j]?=some x):
  (f.toList.drop (o+j*t.length)).take t.length=vals t x/\j*t.length+t.length<=l.length*t.length:=by
 have c:j<l.length:=by
  rcases aH j l.length with a | a
  ·exact a
  ·rw [gU a] at b;cases b
 have d:j*t.length+t.length<=l.length*t.length:=by
  have:=oC t.length (show j+1<=l.length from c);rw [gW] at this;omega
 refine ⟨?_,d⟩;have e:=MB l j x b;rw [<-h,xx,BS,th (by omega),jg] at e;exact e
theorem oN {t:TypeId} {d:TypeDesc} (c:P.underlying t=some d) (b:bY P t=false) {w:World} {r o:Nat} {a:Array Value} {e:TypeId} {fr:Nat×Nat}
  (h:w.heap[r]?=some (.cells a e fr)) {x:Value} (hx:a[o]?=some x):(Instr.loadAt t (.pointer (some ⟨r,o,none⟩))).run P w=.ok x w:=by
 simp only [Instr.loadAt,Instr.sureAddr,loadVar,ax,aD,az,kq c,b,bw,aC,run_load,bv h,hx]
theorem oH {t:TypeId} {d:TypeDesc} (g:P.underlying t=some d) (l:bY P t=true) {w:World} {r o:Nat} {a:Array Value} {e:TypeId} {fr:Nat×Nat}
  (h:w.heap[r]?=some (.cells a e fr)) (n:o+P.cellsOf t<=a.size):
  (Instr.loadAt t (.pointer (some ⟨r,o,none⟩))).run P w=.ok (.agg ((a.toList.drop o).take (P.cellsOf t)).toArray) w:=by
 obtain ⟨i,hi⟩:=nk g;have b:((a.toList.drop o).take (P.cellsOf t)).length=P.cellsOf t:=by simp;omega
 have hc:=yp (P:=P) w ⟨r,o,none⟩ ((a.toList.drop o).take (P.cellsOf t)) (λj v c=>by
  have f:j<P.cellsOf t:=by
   rcases aH j (P.cellsOf t) with k | k
   ·exact k
   ·rw [gU (by omega)] at c;cases c
  rw [qE f,mY] at c;have:(⟨r,o,none⟩:Addr).add j=⟨r,o+j,none⟩:=by
   unfold Addr.add;split
   ·rename_i m;subst m;rfl
   ·rfl
  rw [this,bv h];simpa using c)
 rw [b] at hc;simp only [Instr.loadAt,Instr.sureAddr,loadVar,ax,aD,az,kq g,l,aO,gi hi,hc]
theorem zB {α:Type} {ι:Inj} {H:List (Nat×Blk)} {nb b o:Nat} {w:World} (n:WR ι H nb w) {blk:Blk} (k:look H b=some blk) {t:TypeId} {d:TypeDesc}
  (l:P.underlying t=some d) (m:bY P t=true) {c:V->Option α} {z:α} (h:qp P t blk o c=some z):
  ∃v x r,c v=some z/\ι b=some (some r)/\(Instr.loadAt t (.pointer (some ⟨r.r,o,none⟩))).run P w=.ok x w/\VR ι v x:=by
 unfold qp at h;split at h
 ·split at h
  ·rename_i j;have hle':=aL j;obtain ⟨r,p,e,fr,g,i,f,s⟩:=ru n k;have q:=f.length;have hsz':p.size=p.toList.length:=by simp
   exact ⟨_,_,r,h,g,oH l m i (by omega),qz (by simpa using (f.drop o).take _)⟩
  ·cases h
 ·split at h
  ·rename_i a;simp only [aA,jk] at a;obtain ⟨rfl,u⟩:=a;obtain ⟨r,e,fr,g,i,f,s⟩:=wz n k;refine ⟨_,_,r,h,g,oH l m i (by simp;omega),?_⟩;simp only [VR];refine ⟨f,?_⟩;rw [Value.agg.injEq];apply lh;simp only [cw];exact jf (by simp;omega)
  ·cases h
 ·cases h
theorem VF {k:IntKind} {l:List V} {o:Nat} {n:Int} (h:(l.map (tI k))[o]?=some (some n)):l[o]?=some (.i k n):=by
 rw [mj] at h;cases a:l[o]? with
 | none=>rw [a] at h;cases h
 | some v=>
  rw [a] at h;simp only [fa,av] at h;unfold tI at h;split at h
  ·split at h
   ·rename_i b;rw [kG b];simp only [av] at h;rw [h]
   ·cases h
  ·cases h
theorem Hf {α:Type} {ι:Inj} {H:List (Nat×Blk)} {nb b o:Nat} {w:World} (s:WR ι H nb w) {blk:Blk} (j:look H b=some blk) {t:TypeId}
  {c:V->Option α} {z:α} (h:zg P t blk o c=some z):
  ∃v x r,c v=some z/\ι b=some (some r)/\(Instr.loadAt t (.pointer (some ⟨r.r,o,none⟩))).run P w=.ok x w/\VR ι v x:=by
 have one:∀{d:TypeDesc} {l:List V} {v:V},P.underlying t=some d->bY P t=false->look H b=some (.cells l)->l[o]?=some v->c v=some z->
   ∃v x r,c v=some z/\ι b=some (some r)/\(Instr.loadAt t (.pointer (some ⟨r.r,o,none⟩))).run P w=.ok x w/\VR ι v x:=by
  intro d l v a i j B hc;obtain ⟨r,J,e,fr,g,f,y,D⟩:=ru s j;obtain ⟨x,hx,u⟩:=y.get B;exact ⟨v,x,r,hc,g,oN a i f (by simpa using hx),u⟩
 unfold zg at h;split at h
 ·rename_i F a;exact zB s j a (by simp [bY,a]) h
 ·rename_i n e a;exact zB s j a (by simp [bY,a]) h
 ·rename_i k a;have i:bY P t=false:=by simp [bY,a]
  split at h
  ·split at h
   ·rename_i C p;obtain ⟨n,g,f⟩:=aw h;exact one a i j (by rw [ul p];simp [g]) f
   ·obtain ⟨q,g,f⟩:=aw h;obtain ⟨n,rfl,f⟩:=aw f;exact one a i j (VF g) f
  ·rename_i k' n l;obtain ⟨m,g,f⟩:=aw h;obtain ⟨r,e,fr,A,E,I,G⟩:=wz s j;exact ⟨_,.int k' m,r,f,A,oN a i E (by simp [g]),by simp [VR]⟩
  ·cases h
 ·rename_i a;have i:bY P t=false:=by simp [bY,a]
  split at h
  ·split at h
   ·rename_i C p;obtain ⟨n,g,f⟩:=aw h;exact one a i j (by rw [uM p];simp [g]) f
   ·obtain ⟨v,g,f⟩:=aw h;exact one a i j g f
  ·cases h
 ·rename_i d g f y D a;have i:bY P t=false:=by
   simp only [bY,a];cases d<;>simp_all
  split at h
  ·obtain ⟨v,g,f⟩:=aw h;exact one a i j g f
  ·cases h
 ·cases h
theorem QO {α:Type} {ι:Inj} {w:World} {r o base:Nat} {A:Array Value} {e:TypeId} {fr:Nat×Nat} {l:List V} (B:w.heap[r]?=some (.cells A e fr))
  (D:VRs ι l ((A.toList.drop base).take l.length)) (C:base+l.length<=A.size) {t:TypeId} {c:V->Option α} {z:α} (h:zg P t (.cells l) o c=some z):
  ∃v x,c v=some z/\(Instr.loadAt t (.pointer (some ⟨r,base+o,none⟩))).run P w=.ok x w/\VR ι v x:=by
 have one:∀{d:TypeDesc} {v:V},P.underlying t=some d->bY P t=false->l[o]?=some v->c v=some z->
   ∃v x,c v=some z/\(Instr.loadAt t (.pointer (some ⟨r,base+o,none⟩))).run P w=.ok x w/\VR ι v x:=by
  intro d v a f p hc;obtain ⟨x,hx,u⟩:=D.get p;have s:o<l.length:=by
   rcases aH o l.length with y | y
   ·exact y
   ·rw [gU y] at p;cases p
  rw [qE s,mY] at hx;exact ⟨v,x,hc,oN a f B (by simpa using hx),u⟩
 have j:∀{d:TypeDesc},P.underlying t=some d->bY P t=true->qp P t (.cells l) o c=some z->
   ∃v x,c v=some z/\(Instr.loadAt t (.pointer (some ⟨r,base+o,none⟩))).run P w=.ok x w/\VR ι v x:=by
  intro d a f h;simp only [qp] at h;split at h
  ·rename_i m;have hle':=aL m;refine ⟨_,_,h,oH a f B (by omega),qz ?_⟩;have:=(D.drop o).take (P.cellsOf t);rw [xx,jg,BS,th (by omega)] at this;simpa using this
  ·cases h
 unfold zg at h;split at h
 ·rename_i F a;exact j a (by simp [bY,a]) h
 ·rename_i n e a;exact j a (by simp [bY,a]) h
 ·rename_i k a;have f:bY P t=false:=by simp [bY,a]
  simp only at h;split at h
  ·rename_i E i;obtain ⟨n,g,b⟩:=aw h;exact one a f (by rw [ul i];simp [g]) b
  ·obtain ⟨q,g,b⟩:=aw h;obtain ⟨n,rfl,b⟩:=aw b;exact one a f (VF g) b
 ·rename_i a;have f:bY P t=false:=by simp [bY,a]
  simp only at h;split at h
  ·rename_i E i;obtain ⟨n,g,b⟩:=aw h;exact one a f (by rw [uM i];simp [g]) b
  ·obtain ⟨v,g,b⟩:=aw h;exact one a f g b
 ·rename_i d g b H G a;have f:bY P t=false:=by
   simp only [bY,a];cases d<;>simp_all
  simp only at h;obtain ⟨v,g,b⟩:=aw h;exact one a f g b
 ·cases h
theorem Lf.inV_ok:∀{a:Lf} {v:V} {x:a.den},a.inV v=some x->v=a.toV x
 | .i k,v,x,h=>by
  cases v<;>simp only [Lf.inV] at h<;>try cases h
  split at h
  ·rename_i C;simp only [av] at h;subst h;rw [kG C];rfl
  ·cases h
 | .bo,v,x,h=>by cases v<;>simp only [Lf.inV] at h<;>cases h;rfl
 | .s,v,x,h=>by cases v<;>simp only [Lf.inV] at h<;>cases h;rfl
theorem wq:∀{t:List Lf} {l:List V} {x:den t},yI t l=some x->l=cells t x
 | [],[],_,_=>rfl
 | [],_::_,_,h=>by simp [yI] at h
 | [a],[],_,h=>by simp [yI] at h
 | [a],[v],x,h=>by
  simp only [yI] at h;rw [Lf.inV_ok h];rfl
 | [a],_::_::_,_,h=>by simp [yI] at h
 | a::b::t,[],_,h=>by simp [yI] at h
 | a::b::t,v::vs,x,h=>by
  simp only [yI] at h;split at h
  ·rename_i y hy;split at h
   ·rename_i d c;simp only [av] at h;subst h;rw [Lf.inV_ok hy,wq c];rfl
   ·cases h
  ·cases h
theorem Ef {t:List Lf}:∀{n:Nat} {l:List V} {m:List (den t)},Db t t.length n l=some m->l.length=n*t.length->m.length=n/\l=m.flatMap (cells t)
 | 0,l,m,h,a=>by
  simp only [Db,av] at h;subst h;exact ⟨rfl,by simpa using a⟩
 | n+1,l,m,h,a=>by
  simp only [Db] at h;split at h
  ·rename_i x hx;split at h
   ·rename_i m' d;simp only [av] at h;subst h;rw [gW] at a;obtain ⟨c,b⟩:=Ef d (by rw [bP];omega);refine ⟨by simp [c],?_⟩;rw [ou,<-wq hx,<-b,tD]
   ·cases h
  ·cases h
theorem Hu (ι:Inj) {t:List Lf}:∀(m:List (den t)) (a:List Value),VRs ι (m.flatMap (cells t)) a->a=m.flatMap (vals t)
 | [],a,h=>by simpa [VRs] using h
 | x::m,a,h=>by
  rw [ou] at h ⊢;have c:=h.take t.length;have b:=h.drop t.length;rw [vq (by rw [kR];exact aV _),jf (by rw [kR];exact aV _)] at c;rw [IL,jE (by rw [kR];exact aV _),kR] at b;simp only [B9,cw,dJ] at b;rw [<-(kO ι t x _).1 c,<-Hu ι m _ b,tD]
end Go.Abs
