
/- What the abstract effect of an operation says of the model's own operation: the parts of it.
   Conditions: none; generic over the program. -/
import Derived.Test.YthemneooekobkaaGreatDoorAbsB
import Derived.Laws.Entries
import Derived.Laws.Cells
set_option linter.unusedSimpArgs false
set_option linter.unusedVariables false
namespace Go.Abs
variable {P:Program}
theorem mZ {t:TypeId} {d:TypeDesc} (h:P.underlying t=some d):∃i,P.info? t=some i:=by
 unfold Program.underlying at h;cases hi:P.info? t with
 | none=>simp [hi] at h
 | some i=>exact ⟨i,rfl⟩
theorem ci {t:TypeId} (h:Nat.blt 0 (P.cellsOf t)=true):∃i,P.info? t=some i:=by
 unfold Program.cellsOf at h;cases hi:P.info? t with
 | none=>simp [hi] at h
 | some i=>exact ⟨i,rfl⟩
theorem gj {t:TypeId} {i:TypeInfo} (h:P.info? t=some i) (w:World):(sizeOf t).run P w=.ok (P.cellsOf t) w:=by
 simp [sizeOf,typeInfo,h,Program.cellsOf]
theorem kH {t:TypeId} {d:TypeDesc} (h:P.underlying t=some d) (w:World):(isAgg t).run P w=.ok (ca P t) w:=by
 unfold isAgg ca;rw [h];simp only [az,be h,aB];cases d<;>rfl
theorem Eg (ι:Inj) {x:Value} {v:V} (h:IT x=some v):VR ι v x/\x.cells=#[x]/\oneV v=true:=by
 unfold IT at h;split at h<;>simp_all [Value.cells]
 all_goals (subst h;simp [VR,oneV,Value.cells,Value.oneCell'])
theorem zT (ι:Inj):∀{a:List Value} {l:List V},wQ a=some l->VRs ι l a
 | [],_,h=>by simp only [wQ,aw] at h;subst h;simp [VRs]
 | x::a,l,h=>by
  simp only [wQ] at h;split at h
  ·rename_i v b;split at h
   ·rename_i m c;simp only [aw] at h;subst h;simp only [VRs];exact ⟨x,a,rfl,(Eg ι b).1,zT ι c⟩
   ·cases h
  ·cases h
theorem GV (ι:Inj) {x:Value} {v:V} (h:QE x=some v):VR ι v x:=by
 unfold QE at h;split at h
 ·split at h
  ·rename_i a;simp only [aw] at h;subst h;simp only [VR];exact ⟨_,rfl,zT ι a⟩
  ·cases h
 ·exact (Eg ι h).1
theorem uO {k:IntKind}:∀{l:List V} {b:List Int},zS k l=some b->l=b.map (V.i k)
 | [],_,h=>by simp only [zS,aw] at h;subst h;rfl
 | v::l,b,h=>by
  unfold zS at h;split at h<;>rename_i a
  ·cases a
  ·injection a with h1 h2;subst h1 h2;split at h
   ·rename_i c;split at h
    ·rename_i m d;simp only [aw] at h;subst h;rw [uO d,lc c];rfl
    ·cases h
   ·cases h
  ·cases h
theorem ua:∀{l:List V} {b:List (aa)},zA l=some b->l=b.map V.s
 | [],_,h=>by simp only [zA,aw] at h;subst h;rfl
 | v::l,b,h=>by
  unfold zA at h;split at h<;>rename_i a
  ·cases a
  ·injection a with h1 h2;subst h1 h2;split at h
   ·rename_i m c;simp only [aw] at h;subst h;rw [ua c];rfl
   ·cases h
  ·cases h
theorem VRs.of_ints {ι:Inj} {k:IntKind}:∀{C:List Int} {E:List Value},VRs ι (C.map (V.i k)) E->E=C.map (Value.int k)
 | [],_,h=>by simpa [VRs] using h
 | x::C,E,h=>by
  simp only [fW,VRs,VR] at h;obtain ⟨y,G,rfl,rfl,F⟩:=h;simp [VRs.of_ints F]
theorem qp {ι:Inj} {t:TypeId} {l:List V} {a:Array Value} (h:VRs ι l a.toList):VR ι (EW P t l) (.agg a):=by
 unfold EW;split
 ·split
  ·rename_i hx;rw [uO hx] at h;simp only [VR,ku];have:=VRs.of_ints h;rw [Value.agg.injEq];apply m6;simpa using this
  ·simp only [VR];exact ⟨a,rfl,h⟩
 ·simp only [VR];exact ⟨a,rfl,h⟩
theorem SI {ι:Inj} {t:TypeId} {v:V} {x:Value} (h:VR ι v x):VR ι (norm P t v) x:=by
 cases v<;>simp only [norm]<;>try exact h
 simp only [VR] at h;obtain ⟨a,rfl,h⟩:=h;exact qp h
theorem tf (n:Nat):NF (0,0) n:=by
 intro j _ h;simp at h
theorem IH {ι:Inj} {q:Rf} {v:V} {x:Value} (h:VR ι v x) (t:TypeId):BR ι q (P8 v) (.cells x.cells t):=by
 have one:∀{v:V} {x:Value},VR ι v x->x.cells=#[x]->BR ι q (.cells [v]) (.cells x.cells t):=by
  intro v x h hx;rw [hx];exact ⟨_,_,_,rfl,by simp only [VRs];exact ⟨x,[],rfl,h,rfl⟩,tf _⟩
 cases v with
 | ag l=>
  simp only [VR] at h;obtain ⟨a,rfl,h⟩:=h;exact ⟨a,t,(0,0),rfl,h,tf _⟩
 | ai k n l=>
  simp only [VR] at h;obtain ⟨b,rfl⟩:=h;exact ⟨t,(0,0),rfl,b,tf _⟩
 | _=>
  simp only [P8];refine one h ?_;simp only [VR] at h
  first
   | (rcases h with ⟨_,_,rfl⟩ | ⟨_,_,rfl⟩<;>rfl)
   | (rcases h with ⟨_,_,_,_,_,_,rfl⟩ | ⟨_,_,_,rfl⟩<;>rfl)
   | (subst h;rfl)
   | (obtain ⟨a,h,_⟩:=h;obtain ⟨_,_,_,e⟩:=Ac _ a;rw [h,e];rfl)
   | (obtain ⟨_,rfl,_⟩:=h;rfl)
   | (obtain ⟨_,_,rfl⟩:=h;rfl)
   | (obtain ⟨_,_,_,_,_,rfl⟩:=h;rfl)
   | exact h.1
theorem wM (k:IntKind) (l:List Int):∀(n j:Nat),uQ k l n j=(List.range n).map λi=>V.i k (l.getD (j+i) 0)
 | 0,_=>rfl
 | n+1,j=>by
  simp only [uQ,wM k l n (j+1),List.range_succ_eq_map,fW,uW,cH];congr 1;apply List.map_congr_left;intro i _;simp [gq,oG 1 i]
theorem D6 (k:IntKind) {l:List Int} {n:Nat} (h:l.length=n):uQ k l n 0=l.map (V.i k):=by
 rw [wM];apply zZ;intro i;by_cases hi:i<n
 ·simp [hi,h▸hi,List.getD]
 ·simp [hi,fV (Nat.le_of_not_lt (h▸hi))]
theorem ny {ι:Inj} {v:V} {x:Value} (h:VR ι v x):VRs ι (cellsOf v) x.cells.toList:=by
 have one:∀{v:V} {x:Value},VR ι v x->x.cells=#[x]->VRs ι [v] x.cells.toList:=by
  intro v x h hx;rw [hx];simp only [VRs];exact ⟨x,[],rfl,h,rfl⟩
 cases v with
 | ag l=>
  simp only [VR] at h;obtain ⟨a,rfl,h⟩:=h;exact h
 | ai k n l=>
  simp only [VR] at h;obtain ⟨b,rfl⟩:=h;simp only [cellsOf,D6 k b,Value.cells];exact VRs.ints k l
 | _=>
  simp only [cellsOf];refine one h ?_;simp only [VR] at h
  first
   | (rcases h with ⟨_,_,rfl⟩ | ⟨_,_,rfl⟩<;>rfl)
   | (rcases h with ⟨_,_,_,_,_,_,rfl⟩ | ⟨_,_,_,rfl⟩<;>rfl)
   | (subst h;rfl)
   | (obtain ⟨a,h,_⟩:=h;obtain ⟨_,_,_,e⟩:=Ac _ a;rw [h,e];rfl)
   | (obtain ⟨_,rfl,_⟩:=h;rfl)
   | (obtain ⟨_,_,rfl⟩:=h;rfl)
   | (obtain ⟨_,_,_,_,_,rfl⟩:=h;rfl)
   | exact h.1
theorem bu {ι:Inj} {T:List (Nat×Option V)} {a:Act} (b:TR ι T a.tmps) {x:Operand} {v:V} (h:opd T x=some v):VR ι v (a.eval x):=by
 cases x with
 | tmp t=>
  simp only [opd] at h;split at h
  ·rename_i u e;simp only [aw] at h;subst h;obtain ⟨y,i,d⟩:=b t u e;simpa [Act.eval,rt,i] using d
  ·cases h
 | const c=>exact GV ι h
 | func f=>
  simp only [opd] at h;split at h
  ·rename_i j;simp only [aw] at h;subst h;simp only [VR,Act.eval];exact ⟨#[],(Gg j _).symm,by simp [VRs]⟩
  ·cases h
 | global g=>simp [opd] at h
theorem wV {ι:Inj} {T:List (Nat×Option V)} {a:Act} (c:TR ι T a.tmps):∀{b:List Operand} {l:List V},opds (opd T) b=some l->VRs ι l (b.map a.eval)
 | [],_,h=>by simp only [opds,aw] at h;subst h;simp [VRs]
 | x::b,l,h=>by
  simp only [opds] at h;split at h
  ·rename_i v d;split at h
   ·rename_i m e;simp only [aw] at h;subst h;simp only [fW,VRs];exact ⟨_,_,rfl,bu c d,wV c e⟩
   ·cases h
  ·cases h
theorem C3 {ι:Inj} {v:V} {x:Value} (h:VR ι v x) (b:oneV v=true):x.oneCell'=true:=by
 cases v<;>simp only [oneV,bs] at b<;>simp only [VR] at h<;>first
  | (rcases h with ⟨_,_,rfl⟩ | ⟨_,_,rfl⟩<;>rfl)
  | (rcases h with ⟨_,_,_,_,_,_,rfl⟩ | ⟨_,_,_,rfl⟩<;>rfl)
  | (subst h;rfl)
  | (obtain ⟨a,h,_⟩:=h;obtain ⟨_,_,_,e⟩:=Ac _ a;rw [h,e];rfl)
  | (obtain ⟨_,rfl,_⟩:=h;rfl)
  | (obtain ⟨_,_,rfl⟩:=h;rfl)
  | (obtain ⟨_,_,_,_,_,rfl⟩:=h;rfl)
  | exact h.2
theorem rr {ι:Inj} {H:List (Nat×Blk)} {nb b:Nat} {w:World} (c:WR ι H nb w) {l:List V} (i:look H b=some (.cells l)):
  ∃r a e fr,ι b=some (some r)/\w.heap[r.r]?=some (.cells a e fr)/\VRs ι l a.toList/\NF fr a.size:=by
 obtain ⟨r,o,f,d,a,e,fr,rfl,g,h⟩:=(c.blk b _ i (by simp)).real (by simp);exact ⟨r,a,e,fr,f,d,g,h⟩
theorem wk {ι:Inj} {H:List (Nat×Blk)} {nb b:Nat} {w:World} (a:WR ι H nb w) {k:IntKind} {n:Nat} {l:List Int} (h:look H b=some (.ints k n l)):
  ∃r e fr,ι b=some (some r)/\w.heap[r.r]?=some (.cells (l.map (Value.int k)).toArray e fr)/\l.length=n/\NF fr n:=by
 obtain ⟨r,o,d,c,e,fr,rfl,f,g⟩:=(a.blk b _ h (by simp)).real (by simp);exact ⟨r,e,fr,d,c,f,g⟩
theorem jH {ι:Inj} {H:List (Nat×Blk)} {nb b:Nat} {w:World} (g:WR ι H nb w) {t:List Lf} {l:List (den t)} (h:look H b=some (.rows t l)):
  (∃r a e fr,ι b=some (some r)/\w.heap[r.r]?=some (.cells a e fr)/\l.length=r.n/\r.n<=r.k/\r.o+r.k*t.length<=a.size/\(a.toList.drop r.o).take (l.length*t.length)=l.flatMap (vals t)/\(r.fz=true\/NF fr a.size))\/
  (ι b=some none/\l=[]):=by
 rcases g.blk b _ h (by simp) with ⟨r,o,d,c,a,e,fr,rfl,f⟩ | ⟨d,i,c⟩
 ·exact .inl ⟨r,a,e,fr,d,c,f⟩
 ·injection c with f h4;subst f;exact .inr ⟨d,eq_of_heq h4⟩
theorem ov {t:List Lf}:∀(l:List (den t)),(l.flatMap (vals t)).length=l.length*t.length
 | []=>by simp
 | x::l=>by simp [om,gO,ov l,ic,oG]
theorem MV {t:List Lf}:∀(l:List (den t)) (j:Nat) (x:den t),l[j]?=some x->((l.flatMap (vals t)).drop (j*t.length)).take t.length=vals t x
 | [],j,x,h=>by simp at h
 | y::l,0,x,h=>by
  simp only [lC,aw] at h;subst h;simp only [BH,cO,om];rw [vk (by rw [gO];exact bi _),jB (by rw [gO];exact bi _)]
 | y::l,j+1,x,h=>by
  simp only [HI] at h;simp only [om];rw [show (j+1)*t.length=(vals t y).length+j*t.length by rw [gO,ic];omega,Ig,jk (by omega)];simp only [Fv,dW];exact MV l j x h
theorem RP {t:List Lf} {l:List (den t)} {e:Array Value} {o:Nat} (h:(e.toList.drop o).take (l.length*t.length)=l.flatMap (vals t)) {j:Nat} {x:den t} (b:l[j]?=some x):
  (e.toList.drop (o+j*t.length)).take t.length=vals t x/\j*t.length+t.length<=l.length*t.length:=by
 have a:j<l.length:=by
  rcases aI j l.length with d | d
  ·exact d
  ·rw [fV d] at b;cases b
 have c:j*t.length+t.length<=l.length*t.length:=by
  have:=oH t.length (show j+1<=l.length from a);rw [ic] at this;omega
 refine ⟨?_,c⟩;have f:=MV l j x b;rw [<-h,xB,A9,tj (by omega),jm] at f;exact f
theorem oJ {t:TypeId} {d:TypeDesc} (c:P.underlying t=some d) (b:ca P t=false) {w:World} {r o:Nat} {a:Array Value} {e:TypeId} {fr:Nat×Nat}
  (h:w.heap[r]?=some (.cells a e fr)) {x:Value} (hx:a[o]?=some x):(Instr.loadAt t (.pointer (some ⟨r,o,none⟩))).run P w=.ok x w:=by
 simp only [Instr.loadAt,Instr.sureAddr,loadVar,az,aF,aB,kH c,b,bs,aG,run_load,bA h,hx]
theorem oz {t:TypeId} {d:TypeDesc} (k:P.underlying t=some d) (m:ca P t=true) {w:World} {r o:Nat} {a:Array Value} {e:TypeId} {fr:Nat×Nat}
  (h:w.heap[r]?=some (.cells a e fr)) (n:o+P.cellsOf t<=a.size):
  (Instr.loadAt t (.pointer (some ⟨r,o,none⟩))).run P w=.ok (.agg ((a.toList.drop o).take (P.cellsOf t)).toArray) w:=by
 obtain ⟨i,hi⟩:=mZ k;have b:((a.toList.drop o).take (P.cellsOf t)).length=P.cellsOf t:=by simp;omega
 have hc:=yy (P:=P) w ⟨r,o,none⟩ ((a.toList.drop o).take (P.cellsOf t)) (λj v c=>by
  have f:j<P.cellsOf t:=by
   rcases aI j (P.cellsOf t) with g | g
   ·exact g
   ·rw [fV (by omega)] at c;cases c
  rw [qF f,mw] at c;have:(⟨r,o,none⟩:Addr).add j=⟨r,o+j,none⟩:=by
   unfold Addr.add;split
   ·rename_i l;subst l;rfl
   ·rfl
  rw [this,bA h];simpa using c)
 rw [b] at hc;simp only [Instr.loadAt,Instr.sureAddr,loadVar,az,aF,aB,kH k,m,aM,gj hi,hc]
theorem Ax {α:Type} {ι:Inj} {H:List (Nat×Blk)} {nb b o:Nat} {w:World} (m:WR ι H nb w) {blk:Blk} (p:look H b=some blk) {t:TypeId} {d:TypeDesc}
  (n:P.underlying t=some d) (k:ca P t=true) {c:V->Option α} {z:α} (h:qf P t blk o c=some z):
  ∃v x r,c v=some z/\ι b=some (some r)/\(Instr.loadAt t (.pointer (some ⟨r.r,o,none⟩))).run P w=.ok x w/\VR ι v x:=by
 unfold qf at h;split at h
 ·split at h
  ·rename_i g;have hle':=aN g;obtain ⟨r,l,e,fr,j,i,f,u⟩:=rr m p;have s:=f.length;have hsz':l.size=l.toList.length:=by simp
   exact ⟨_,_,r,h,j,oz n k i (by omega),qp (by simpa using (f.drop o).take _)⟩
  ·cases h
 ·split at h
  ·rename_i a;simp only [aD,jq] at a;obtain ⟨rfl,q⟩:=a;obtain ⟨r,e,fr,j,i,f,u⟩:=wk m p;refine ⟨_,_,r,h,j,oz n k i (by simp;omega),?_⟩;simp only [VR];refine ⟨f,?_⟩;rw [Value.agg.injEq];apply m6;simp only [cO];exact jB (by simp;omega)
  ·cases h
 ·cases h
theorem Xh {k:IntKind} {l:List V} {o:Nat} {n:Int} (h:(l.map (tI k))[o]?=some (some n)):l[o]?=some (.i k n):=by
 rw [qG] at h;cases a:l[o]? with
 | none=>rw [a] at h;cases h
 | some v=>
  rw [a] at h;simp only [fi,aw] at h;unfold tI at h;split at h
  ·split at h
   ·rename_i b;rw [lc b];simp only [aw] at h;rw [h]
   ·cases h
  ·cases h
theorem HY {α:Type} {ι:Inj} {H:List (Nat×Blk)} {nb b o:Nat} {w:World} (s:WR ι H nb w) {blk:Blk} (j:look H b=some blk) {t:TypeId}
  {c:V->Option α} {z:α} (h:zf P t blk o c=some z):
  ∃v x r,c v=some z/\ι b=some (some r)/\(Instr.loadAt t (.pointer (some ⟨r.r,o,none⟩))).run P w=.ok x w/\VR ι v x:=by
 have one:∀{d:TypeDesc} {l:List V} {v:V},P.underlying t=some d->ca P t=false->look H b=some (.cells l)->l[o]?=some v->c v=some z->
   ∃v x r,c v=some z/\ι b=some (some r)/\(Instr.loadAt t (.pointer (some ⟨r.r,o,none⟩))).run P w=.ok x w/\VR ι v x:=by
  intro d l v a i j B hc;obtain ⟨r,F,e,fr,g,f,y,D⟩:=rr s j;obtain ⟨x,hx,u⟩:=y.get B;exact ⟨v,x,r,hc,g,oJ a i f (by simpa using hx),u⟩
 unfold zf at h;split at h
 ·rename_i G a;exact Ax s j a (by simp [ca,a]) h
 ·rename_i n e a;exact Ax s j a (by simp [ca,a]) h
 ·rename_i k a;have i:ca P t=false:=by simp [ca,a]
  split at h
  ·split at h
   ·rename_i C p;obtain ⟨n,g,f⟩:=ay h;exact one a i j (by rw [uO p];simp [g]) f
   ·obtain ⟨q,g,f⟩:=ay h;obtain ⟨n,rfl,f⟩:=ay f;exact one a i j (Xh g) f
  ·rename_i k' n l;obtain ⟨m,g,f⟩:=ay h;obtain ⟨r,e,fr,A,E,J,I⟩:=wk s j;exact ⟨_,.int k' m,r,f,A,oJ a i E (by simp [g]),by simp [VR]⟩
  ·cases h
 ·rename_i a;have i:ca P t=false:=by simp [ca,a]
  split at h
  ·split at h
   ·rename_i C p;obtain ⟨n,g,f⟩:=ay h;exact one a i j (by rw [ua p];simp [g]) f
   ·obtain ⟨v,g,f⟩:=ay h;exact one a i j g f
  ·cases h
 ·rename_i d g f y D a;have i:ca P t=false:=by
   simp only [ca,a];cases d<;>simp_all
  split at h
  ·obtain ⟨v,g,f⟩:=ay h;exact one a i j g f
  ·cases h
 ·cases h
theorem Q5 {α:Type} {ι:Inj} {w:World} {r o base:Nat} {s:Array Value} {e:TypeId} {fr:Nat×Nat} {l:List V} (D:w.heap[r]?=some (.cells s e fr))
  (C:VRs ι l ((s.toList.drop base).take l.length)) (B:base+l.length<=s.size) {t:TypeId} {c:V->Option α} {z:α} (h:zf P t (.cells l) o c=some z):
  ∃v x,c v=some z/\(Instr.loadAt t (.pointer (some ⟨r,base+o,none⟩))).run P w=.ok x w/\VR ι v x:=by
 have one:∀{d:TypeDesc} {v:V},P.underlying t=some d->ca P t=false->l[o]?=some v->c v=some z->
   ∃v x,c v=some z/\(Instr.loadAt t (.pointer (some ⟨r,base+o,none⟩))).run P w=.ok x w/\VR ι v x:=by
  intro d v a f u hc;obtain ⟨x,hx,p⟩:=C.get u;have y:o<l.length:=by
   rcases aI o l.length with A | A
   ·exact A
   ·rw [fV A] at u;cases u
  rw [qF y,mw] at hx;exact ⟨v,x,hc,oJ a f D (by simpa using hx),p⟩
 have j:∀{d:TypeDesc},P.underlying t=some d->ca P t=true->qf P t (.cells l) o c=some z->
   ∃v x,c v=some z/\(Instr.loadAt t (.pointer (some ⟨r,base+o,none⟩))).run P w=.ok x w/\VR ι v x:=by
  intro d a f h;simp only [qf] at h;split at h
  ·rename_i m;have hle':=aN m;refine ⟨_,_,h,oz a f D (by omega),qp ?_⟩;have:=(C.drop o).take (P.cellsOf t);rw [xB,jm,A9,tj (by omega)] at this;simpa using this
  ·cases h
 unfold zf at h;split at h
 ·rename_i G a;exact j a (by simp [ca,a]) h
 ·rename_i n e a;exact j a (by simp [ca,a]) h
 ·rename_i k a;have f:ca P t=false:=by simp [ca,a]
  simp only at h;split at h
  ·rename_i E i;obtain ⟨n,g,b⟩:=ay h;exact one a f (by rw [uO i];simp [g]) b
  ·obtain ⟨q,g,b⟩:=ay h;obtain ⟨n,rfl,b⟩:=ay b;exact one a f (Xh g) b
 ·rename_i a;have f:ca P t=false:=by simp [ca,a]
  simp only at h;split at h
  ·rename_i E i;obtain ⟨n,g,b⟩:=ay h;exact one a f (by rw [ua i];simp [g]) b
  ·obtain ⟨v,g,b⟩:=ay h;exact one a f g b
 ·rename_i d g b H F a;have f:ca P t=false:=by
   simp only [ca,a];cases d<;>simp_all
  simp only at h;obtain ⟨v,g,b⟩:=ay h;exact one a f g b
 ·cases h
theorem Lf.inV_ok:∀{a:Lf} {v:V} {x:a.den},a.inV v=some x->v=a.toV x
 | .i k,v,x,h=>by
  cases v<;>simp only [Lf.inV] at h<;>try cases h
  split at h
  ·rename_i C;simp only [aw] at h;subst h;rw [lc C];rfl
  ·cases h
 | .bo,v,x,h=>by cases v<;>simp only [Lf.inV] at h<;>cases h;rfl
 | .s,v,x,h=>by cases v<;>simp only [Lf.inV] at h<;>cases h;rfl
theorem wu:∀{t:List Lf} {l:List V} {x:den t},xE t l=some x->l=cells t x
 | [],[],_,_=>rfl
 | [],_::_,_,h=>by simp [xE] at h
 | [a],[],_,h=>by simp [xE] at h
 | [a],[v],x,h=>by
  simp only [xE] at h;rw [Lf.inV_ok h];rfl
 | [a],_::_::_,_,h=>by simp [xE] at h
 | a::b::t,[],_,h=>by simp [xE] at h
 | a::b::t,v::vs,x,h=>by
  simp only [xE] at h;split at h
  ·rename_i y hy;split at h
   ·rename_i d c;simp only [aw] at h;subst h;rw [Lf.inV_ok hy,wu c];rfl
   ·cases h
  ·cases h
theorem Ek {t:List Lf}:∀{n:Nat} {l:List V} {m:List (den t)},Ej t t.length n l=some m->l.length=n*t.length->m.length=n/\l=m.flatMap (cells t)
 | 0,l,m,h,a=>by
  simp only [Ej,aw] at h;subst h;exact ⟨rfl,by simpa using a⟩
 | n+1,l,m,h,a=>by
  simp only [Ej] at h;split at h
  ·rename_i x hx;split at h
   ·rename_i m' d;simp only [aw] at h;subst h;rw [ic] at a;obtain ⟨c,b⟩:=Ek d (by rw [bN];omega);refine ⟨by simp [c],?_⟩;rw [om,<-wu hx,<-b,tA]
   ·cases h
  ·cases h
theorem Iz (ι:Inj) {t:List Lf}:∀(m:List (den t)) (a:List Value),VRs ι (m.flatMap (cells t)) a->a=m.flatMap (vals t)
 | [],a,h=>by simpa [VRs] using h
 | x::m,a,h=>by
  rw [om] at h ⊢;have c:=h.take t.length;have b:=h.drop t.length;rw [vk (by rw [kX];exact bi _),jB (by rw [kX];exact bi _)] at c;rw [Ig,jk (by rw [kX];exact bi _),kX] at b;simp only [Nat.sub_self,cO,dW] at b;rw [<-(od ι t x _).1 c,<-Iz ι m _ b,tA]
end Go.Abs
