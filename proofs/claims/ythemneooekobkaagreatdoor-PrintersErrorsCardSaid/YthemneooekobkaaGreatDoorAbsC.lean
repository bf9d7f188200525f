
/- What the abstract effect of an operation says of the model's own operation: the parts of it.
   Conditions: none; generic over the program. -/
import Derived.Test.YthemneooekobkaaGreatDoorAbsB
import Derived.Laws.Entries
import Derived.Laws.Cells
set_option linter.unusedSimpArgs false
set_option linter.unusedVariables false
namespace Go.Abs
variable {P:Program}
theorem lP {t:TypeId} {d:TypeDesc} (h:P.underlying t=some d):∃i,P.info? t=some i:=by
 unfold Program.underlying at h;cases hi:P.info? t with
 | none=>simp [hi] at h
 | some i=>exact ⟨i,rfl⟩
theorem bL {t:TypeId} (h:Nat.blt 0 (P.cellsOf t)=true):∃i,P.info? t=some i:=by
 unfold Program.cellsOf at h;cases hi:P.info? t with
 | none=>simp [hi] at h
 | some i=>exact ⟨i,rfl⟩
theorem eN {t:TypeId} {i:TypeInfo} (h:P.info? t=some i) (w:World):(sizeOf t).run P w=.ok (P.cellsOf t) w:=by
 simp [sizeOf,typeInfo,h,Program.cellsOf]
theorem jw {t:TypeId} {d:TypeDesc} (h:P.underlying t=some d) (w:World):(isAgg t).run P w=.ok (bG P t) w:=by
 unfold isAgg bG;rw [h];simp only [av,aV h,ax];cases d<;>rfl
theorem Aq (ι:Inj) {x:Value} {v:V} (h:D6 x=some v):VR ι v x/\x.cells=#[x]/\oneV v=true:=by
 unfold D6 at h;split at h<;>simp_all [Value.cells]
 all_goals (subst h;simp [VR,oneV,Value.cells,Value.oneCell'])
theorem xl (ι:Inj):∀{a:List Value} {l:List V},vR a=some l->VRs ι l a
 | [],_,h=>by simp only [vR,am] at h;subst h;simp [VRs]
 | x::a,l,h=>by
  simp only [vR] at h;split at h
  ·rename_i v b;split at h
   ·rename_i m c;simp only [am] at h;subst h;simp only [VRs];exact ⟨x,a,rfl,(Aq ι b).1,xl ι c⟩
   ·cases h
  ·cases h
theorem DL (ι:Inj) {x:Value} {v:V} (h:L9 x=some v):VR ι v x:=by
 unfold L9 at h;split at h
 ·split at h
  ·rename_i a;simp only [am] at h;subst h;simp only [VR];exact ⟨_,rfl,xl ι a⟩
  ·cases h
 ·exact (Aq ι h).1
theorem rI {k:IntKind}:∀{l:List V} {b:List Int},wW k l=some b->l=b.map (V.i k)
 | [],_,h=>by simp only [wW,am] at h;subst h;rfl
 | v::l,b,h=>by
  unfold wW at h;split at h<;>rename_i a
  ·cases a
  ·injection a with h1 h2;subst h1 h2;split at h
   ·rename_i c;split at h
    ·rename_i m d;simp only [am] at h;subst h;rw [rI d,jL c];rfl
    ·cases h
   ·cases h
  ·cases h
theorem rH:∀{l:List V} {b:List (aa)},xf l=some b->l=b.map V.s
 | [],_,h=>by simp only [xf,am] at h;subst h;rfl
 | v::l,b,h=>by
  unfold xf at h;split at h<;>rename_i a
  ·cases a
  ·injection a with h1 h2;subst h1 h2;split at h
   ·rename_i m c;simp only [am] at h;subst h;rw [rH c];rfl
   ·cases h
  ·cases h
theorem VRs.of_ints {ι:Inj} {k:IntKind}:∀{A:List Int} {C:List Value},VRs ι (A.map (V.i k)) C->C=A.map (Value.int k)
 | [],_,h=>by simpa [VRs] using h
 | x::A,C,h=>by
  simp only [fa,VRs,VR] at h;obtain ⟨y,F,rfl,rfl,E⟩:=h;simp [VRs.of_ints E]
theorem nz {ι:Inj} {t:TypeId} {l:List V} {a:Array Value} (h:VRs ι l a.toList):VR ι (zD P t l) (.agg a):=by
 unfold zD;split
 ·split
  ·rename_i hx;rw [rI hx] at h;simp only [VR,jm];have:=VRs.of_ints h;rw [Value.agg.injEq];apply jZ;simpa using this
  ·simp only [VR];exact ⟨a,rfl,h⟩
 ·simp only [VR];exact ⟨a,rfl,h⟩
theorem OZ {ι:Inj} {t:TypeId} {v:V} {x:Value} (h:VR ι v x):VR ι (norm P t v) x:=by
 cases v<;>simp only [norm]<;>try exact h
 simp only [VR] at h;obtain ⟨a,rfl,h⟩:=h;exact nz h
theorem qJ (n:Nat):NF (0,0) n:=by
 intro j _ h;simp at h
theorem E7 {ι:Inj} {q:Rf} {v:V} {x:Value} (h:VR ι v x) (t:TypeId):BR ι q (KO v) (.cells x.cells t):=by
 have one:∀{v:V} {x:Value},VR ι v x->x.cells=#[x]->BR ι q (.cells [v]) (.cells x.cells t):=by
  intro v x h hx;rw [hx];exact ⟨_,_,_,rfl,by simp only [VRs];exact ⟨x,[],rfl,h,rfl⟩,qJ _⟩
 cases v with
 | ag l=>
  simp only [VR] at h;obtain ⟨a,rfl,h⟩:=h;exact ⟨a,t,(0,0),rfl,h,qJ _⟩
 | ai k n l=>
  simp only [VR] at h;obtain ⟨b,rfl⟩:=h;exact ⟨t,(0,0),rfl,b,qJ _⟩
 | _=>
  simp only [KO];refine one h ?_;simp only [VR] at h
  first
   | (rcases h with ⟨_,_,rfl⟩ | ⟨_,_,rfl⟩<;>rfl)
   | (rcases h with ⟨_,_,_,_,_,_,rfl⟩ | ⟨_,_,_,rfl⟩<;>rfl)
   | (subst h;rfl)
   | (obtain ⟨a,h,_⟩:=h;obtain ⟨_,_,_,e⟩:=wI _ a;rw [h,e];rfl)
   | (obtain ⟨_,rfl,_⟩:=h;rfl)
   | (obtain ⟨_,_,rfl⟩:=h;rfl)
   | (obtain ⟨_,_,_,_,_,rfl⟩:=h;rfl)
   | exact h.1
theorem vN (k:IntKind) (l:List Int):∀(n j:Nat),re k l n j=(List.range n).map λi=>V.i k (l.getD (j+i) 0)
 | 0,_=>rfl
 | n+1,j=>by
  simp only [re,vN k l n (j+1),List.range_succ_eq_map,fa,qu,fg];congr 1;apply List.map_congr_left;intro i _;simp [il,qI 1 i]
theorem zO (k:IntKind) {l:List Int} {n:Nat} (h:l.length=n):re k l n 0=l.map (V.i k):=by
 rw [vN];apply xj;intro i;by_cases hi:i<n
 ·simp [hi,h▸hi,List.getD]
 ·simp [hi,eF (Nat.le_of_not_lt (h▸hi))]
theorem lV {ι:Inj} {v:V} {x:Value} (h:VR ι v x):VRs ι (cellsOf v) x.cells.toList:=by
 have one:∀{v:V} {x:Value},VR ι v x->x.cells=#[x]->VRs ι [v] x.cells.toList:=by
  intro v x h hx;rw [hx];simp only [VRs];exact ⟨x,[],rfl,h,rfl⟩
 cases v with
 | ag l=>
  simp only [VR] at h;obtain ⟨a,rfl,h⟩:=h;exact h
 | ai k n l=>
  simp only [VR] at h;obtain ⟨b,rfl⟩:=h;simp only [cellsOf,zO k b,Value.cells];exact VRs.ints k l
 | _=>
  simp only [cellsOf];refine one h ?_;simp only [VR] at h
  first
   | (rcases h with ⟨_,_,rfl⟩ | ⟨_,_,rfl⟩<;>rfl)
   | (rcases h with ⟨_,_,_,_,_,_,rfl⟩ | ⟨_,_,_,rfl⟩<;>rfl)
   | (subst h;rfl)
   | (obtain ⟨a,h,_⟩:=h;obtain ⟨_,_,_,e⟩:=wI _ a;rw [h,e];rfl)
   | (obtain ⟨_,rfl,_⟩:=h;rfl)
   | (obtain ⟨_,_,rfl⟩:=h;rfl)
   | (obtain ⟨_,_,_,_,_,rfl⟩:=h;rfl)
   | exact h.1
theorem bh {ι:Inj} {T:List (Nat×Option V)} {a:Act} (e:TR ι T a.tmps) {x:Operand} {v:V} (h:opd T x=some v):VR ι v (a.eval x):=by
 cases x with
 | tmp t=>
  simp only [opd] at h;split at h
  ·rename_i u d;simp only [am] at h;subst h;obtain ⟨y,j,b⟩:=e t u d;simpa [Act.eval,oS,j] using b
  ·cases h
 | const c=>exact DL ι h
 | func f=>
  simp only [opd] at h;split at h
  ·rename_i i;simp only [am] at h;subst h;simp only [VR,Act.eval];exact ⟨#[],(BS i _).symm,by simp [VRs]⟩
  ·cases h
 | global g=>simp [opd] at h
theorem wj {ι:Inj} {T:List (Nat×Option V)} {a:Act} (c:TR ι T a.tmps):∀{b:List Operand} {l:List V},opds (opd T) b=some l->VRs ι l (b.map a.eval)
 | [],_,h=>by simp only [opds,am] at h;subst h;simp [VRs]
 | x::b,l,h=>by
  simp only [opds] at h;split at h
  ·rename_i v d;split at h
   ·rename_i m e;simp only [am] at h;subst h;simp only [fa,VRs];exact ⟨_,_,rfl,bh c d,wj c e⟩
   ·cases h
  ·cases h
theorem Ak {ι:Inj} {v:V} {x:Value} (h:VR ι v x) (b:oneV v=true):x.oneCell'=true:=by
 cases v<;>simp only [oneV,cE] at b<;>simp only [VR] at h<;>first
  | (rcases h with ⟨_,_,rfl⟩ | ⟨_,_,rfl⟩<;>rfl)
  | (rcases h with ⟨_,_,_,_,_,_,rfl⟩ | ⟨_,_,_,rfl⟩<;>rfl)
  | (subst h;rfl)
  | (obtain ⟨a,h,_⟩:=h;obtain ⟨_,_,_,e⟩:=wI _ a;rw [h,e];rfl)
  | (obtain ⟨_,rfl,_⟩:=h;rfl)
  | (obtain ⟨_,_,rfl⟩:=h;rfl)
  | (obtain ⟨_,_,_,_,_,rfl⟩:=h;rfl)
  | exact h.2
theorem oL {ι:Inj} {H:List (Nat×Blk)} {nb b:Nat} {w:World} (h:WR ι H nb w) {l:List V} (f:look H b=some (.cells l)):
  ∃r a e fr,ι b=some (some r)/\w.heap[r.r]?=some (.cells a e fr)/\VRs ι l a.toList/\NF fr a.size:=by
 obtain ⟨r,o,i,c,a,e,fr,rfl,d,g⟩:=(h.blk b _ f (by simp)).real (by simp);exact ⟨r,a,e,fr,i,c,d,g⟩
theorem tL {ι:Inj} {H:List (Nat×Blk)} {nb b:Nat} {w:World} (g:WR ι H nb w) {k:IntKind} {n:Nat} {l:List Int} (d:look H b=some (.ints k n l)):
  ∃r e fr,ι b=some (some r)/\w.heap[r.r]?=some (.cells (l.map (Value.int k)).toArray e fr)/\l.length=n/\NF fr n:=by
 obtain ⟨r,o,h,a,e,fr,rfl,c,f⟩:=(g.blk b _ d (by simp)).real (by simp);exact ⟨r,e,fr,h,a,c,f⟩
theorem iv {ι:Inj} {H:List (Nat×Blk)} {nb b:Nat} {w:World} (h:WR ι H nb w) {t:List Lf} {l:List (den t)} (g:look H b=some (.rows t l)):
  (∃r a e fr,ι b=some (some r)/\w.heap[r.r]?=some (.cells a e fr)/\l.length=r.n/\r.n<=r.k/\r.o+r.k*t.length<=a.size/\(a.toList.drop r.o).take (l.length*t.length)=l.flatMap (vals t)/\(r.fz=true\/NF fr a.size))\/
  (ι b=some none/\l=[]):=by
 rcases h.blk b _ g (by simp) with ⟨r,o,f,c,a,e,fr,rfl,d⟩ | ⟨f,i,c⟩
 ·exact .inl ⟨r,a,e,fr,f,c,d⟩
 ·injection c with d h4;subst d;exact .inr ⟨f,eq_of_heq h4⟩
theorem mB {t:List Lf}:∀(l:List (den t)),(l.flatMap (vals t)).length=l.length*t.length
 | []=>by simp
 | x::l=>by simp [m8,fA,mB l,fL,qI]
theorem HO {t:List Lf}:∀(l:List (den t)) (j:Nat) (x:den t),l[j]?=some x->((l.flatMap (vals t)).drop (j*t.length)).take t.length=vals t x
 | [],j,x,h=>by simp at h
 | y::l,0,x,h=>by
  simp only [kb,am] at h;subst h;simp only [Nat.zero_mul,jO,m8];rw [sj (by rw [fA];exact aW _),gX (by rw [fA];exact aW _)]
 | y::l,j+1,x,h=>by
  simp only [Ed] at h;simp only [m8];rw [show (j+1)*t.length=(vals t y).length+j*t.length by rw [fA,fL];omega,Dt,rl (by omega)];simp only [BQ,ij];exact HO l j x h
theorem MG {t:List Lf} {l:List (den t)} {e:Array Value} {o:Nat} (h:(e.toList.drop o).take (l.length*t.length)=l.flatMap (vals t)) {j:Nat} {x:den t} (d:l[j]?=some x):
  (e.toList.drop (o+j*t.length)).take t.length=vals t x/\j*t.length+t.length<=l.length*t.length:=by
 have b:j<l.length:=by
  rcases aH j l.length with a | a
  ·exact a
  ·rw [eF a] at d;cases d
 have c:j*t.length+t.length<=l.length*t.length:=by
  have:=mK t.length (show j+1<=l.length from b);rw [fL] at this;omega
 refine ⟨?_,c⟩;have f:=HO l j x d;rw [<-h,zS,yK,qL (by omega),wN] at f;exact f
theorem mG {t:TypeId} {d:TypeDesc} (b:P.underlying t=some d) (c:bG P t=false) {w:World} {r o:Nat} {a:Array Value} {e:TypeId} {fr:Nat×Nat}
  (h:w.heap[r]?=some (.cells a e fr)) {x:Value} (hx:a[o]?=some x):(Instr.loadAt t (.pointer (some ⟨r,o,none⟩))).run P w=.ok x w:=by
 simp only [Instr.loadAt,Instr.sureAddr,loadVar,av,az,ax,jw b,c,cE,aG,run_load,aX h,hx]
theorem mJ {t:TypeId} {d:TypeDesc} (g:P.underlying t=some d) (l:bG P t=true) {w:World} {r o:Nat} {a:Array Value} {e:TypeId} {fr:Nat×Nat}
  (h:w.heap[r]?=some (.cells a e fr)) (n:o+P.cellsOf t<=a.size):
  (Instr.loadAt t (.pointer (some ⟨r,o,none⟩))).run P w=.ok (.agg ((a.toList.drop o).take (P.cellsOf t)).toArray) w:=by
 obtain ⟨i,hi⟩:=lP g;have b:((a.toList.drop o).take (P.cellsOf t)).length=P.cellsOf t:=by simp;omega
 have hc:=u0 (P:=P) w ⟨r,o,none⟩ ((a.toList.drop o).take (P.cellsOf t)) (λj v c=>by
  have f:j<P.cellsOf t:=by
   rcases aH j (P.cellsOf t) with k | k
   ·exact k
   ·rw [eF (by omega)] at c;cases c
  rw [oc f,ke] at c;have:(⟨r,o,none⟩:Addr).add j=⟨r,o+j,none⟩:=by
   unfold Addr.add;split
   ·rename_i m;subst m;rfl
   ·rfl
  rw [this,aX h];simpa using c)
 rw [b] at hc;simp only [Instr.loadAt,Instr.sureAddr,loadVar,av,az,ax,jw g,l,aY,eN hi,hc]
theorem wA {α:Type} {ι:Inj} {H:List (Nat×Blk)} {nb b o:Nat} {w:World} (p:WR ι H nb w) {blk:Blk} (m:look H b=some blk) {t:TypeId} {d:TypeDesc}
  (l:P.underlying t=some d) (n:bG P t=true) {c:V->Option α} {z:α} (h:nl P t blk o c=some z):
  ∃v x r,c v=some z/\ι b=some (some r)/\(Instr.loadAt t (.pointer (some ⟨r.r,o,none⟩))).run P w=.ok x w/\VR ι v x:=by
 unfold nl at h;split at h
 ·split at h
  ·rename_i i;have hle':=aD i;obtain ⟨r,k,e,fr,j,g,f,s⟩:=oL p m;have u:=f.length;have hsz':k.size=k.toList.length:=by simp
   exact ⟨_,_,r,h,j,mJ l n g (by omega),nz (by simpa using (f.drop o).take _)⟩
  ·cases h
 ·split at h
  ·rename_i a;simp only [ay,io] at a;obtain ⟨rfl,q⟩:=a;obtain ⟨r,e,fr,j,g,f,s⟩:=tL p m;refine ⟨_,_,r,h,j,mJ l n g (by simp;omega),?_⟩;simp only [VR];refine ⟨f,?_⟩;rw [Value.agg.injEq];apply jZ;simp only [jO];exact gX (by simp;omega)
  ·cases h
 ·cases h
theorem QI {k:IntKind} {l:List V} {o:Nat} {n:Int} (h:(l.map (tI k))[o]?=some (some n)):l[o]?=some (.i k n):=by
 rw [mz] at h;cases a:l[o]? with
 | none=>rw [a] at h;cases h
 | some v=>
  rw [a] at h;simp only [ee,am] at h;unfold tI at h;split at h
  ·split at h
   ·rename_i b;rw [jL b];simp only [am] at h;rw [h]
   ·cases h
  ·cases h
theorem En {α:Type} {ι:Inj} {H:List (Nat×Blk)} {nb b o:Nat} {w:World} (s:WR ι H nb w) {blk:Blk} (i:look H b=some blk) {t:TypeId}
  {c:V->Option α} {z:α} (h:wx P t blk o c=some z):
  ∃v x r,c v=some z/\ι b=some (some r)/\(Instr.loadAt t (.pointer (some ⟨r.r,o,none⟩))).run P w=.ok x w/\VR ι v x:=by
 have one:∀{d:TypeDesc} {l:List V} {v:V},P.underlying t=some d->bG P t=false->look H b=some (.cells l)->l[o]?=some v->c v=some z->
   ∃v x r,c v=some z/\ι b=some (some r)/\(Instr.loadAt t (.pointer (some ⟨r.r,o,none⟩))).run P w=.ok x w/\VR ι v x:=by
  intro d l v a j i B hc;obtain ⟨r,F,e,fr,g,f,y,E⟩:=oL s i;obtain ⟨x,hx,u⟩:=y.get B;exact ⟨v,x,r,hc,g,mG a j f (by simpa using hx),u⟩
 unfold wx at h;split at h
 ·rename_i I a;exact wA s i a (by simp [bG,a]) h
 ·rename_i n e a;exact wA s i a (by simp [bG,a]) h
 ·rename_i k a;have j:bG P t=false:=by simp [bG,a]
  split at h
  ·split at h
   ·rename_i A p;obtain ⟨n,g,f⟩:=au h;exact one a j i (by rw [rI p];simp [g]) f
   ·obtain ⟨q,g,f⟩:=au h;obtain ⟨n,rfl,f⟩:=au f;exact one a j i (QI g) f
  ·rename_i k' n l;obtain ⟨m,g,f⟩:=au h;obtain ⟨r,e,fr,C,D,G,J⟩:=tL s i;exact ⟨_,.int k' m,r,f,C,mG a j D (by simp [g]),by simp [VR]⟩
  ·cases h
 ·rename_i a;have j:bG P t=false:=by simp [bG,a]
  split at h
  ·split at h
   ·rename_i A p;obtain ⟨n,g,f⟩:=au h;exact one a j i (by rw [rH p];simp [g]) f
   ·obtain ⟨v,g,f⟩:=au h;exact one a j i g f
  ·cases h
 ·rename_i d g f y E a;have j:bG P t=false:=by
   simp only [bG,a];cases d<;>simp_all
  split at h
  ·obtain ⟨v,g,f⟩:=au h;exact one a j i g f
  ·cases h
 ·cases h
theorem J0 {α:Type} {ι:Inj} {w:World} {r o base:Nat} {u:Array Value} {e:TypeId} {fr:Nat×Nat} {l:List V} (D:w.heap[r]?=some (.cells u e fr))
  (B:VRs ι l ((u.toList.drop base).take l.length)) (C:base+l.length<=u.size) {t:TypeId} {c:V->Option α} {z:α} (h:wx P t (.cells l) o c=some z):
  ∃v x,c v=some z/\(Instr.loadAt t (.pointer (some ⟨r,base+o,none⟩))).run P w=.ok x w/\VR ι v x:=by
 have one:∀{d:TypeDesc} {v:V},P.underlying t=some d->bG P t=false->l[o]?=some v->c v=some z->
   ∃v x,c v=some z/\(Instr.loadAt t (.pointer (some ⟨r,base+o,none⟩))).run P w=.ok x w/\VR ι v x:=by
  intro d v a f s hc;obtain ⟨x,hx,p⟩:=B.get s;have A:o<l.length:=by
   rcases aH o l.length with y | y
   ·exact y
   ·rw [eF y] at s;cases s
  rw [oc A,ke] at hx;exact ⟨v,x,hc,mG a f D (by simpa using hx),p⟩
 have j:∀{d:TypeDesc},P.underlying t=some d->bG P t=true->nl P t (.cells l) o c=some z->
   ∃v x,c v=some z/\(Instr.loadAt t (.pointer (some ⟨r,base+o,none⟩))).run P w=.ok x w/\VR ι v x:=by
  intro d a f h;simp only [nl] at h;split at h
  ·rename_i m;have hle':=aD m;refine ⟨_,_,h,mJ a f D (by omega),nz ?_⟩;have:=(B.drop o).take (P.cellsOf t);rw [zS,wN,yK,qL (by omega)] at this;simpa using this
  ·cases h
 unfold wx at h;split at h
 ·rename_i G a;exact j a (by simp [bG,a]) h
 ·rename_i n e a;exact j a (by simp [bG,a]) h
 ·rename_i k a;have f:bG P t=false:=by simp [bG,a]
  simp only at h;split at h
  ·rename_i E i;obtain ⟨n,g,b⟩:=au h;exact one a f (by rw [rI i];simp [g]) b
  ·obtain ⟨q,g,b⟩:=au h;obtain ⟨n,rfl,b⟩:=au b;exact one a f (QI g) b
 ·rename_i a;have f:bG P t=false:=by simp [bG,a]
  simp only at h;split at h
  ·rename_i E i;obtain ⟨n,g,b⟩:=au h;exact one a f (by rw [rH i];simp [g]) b
  ·obtain ⟨v,g,b⟩:=au h;exact one a f g b
 ·rename_i d g b F H a;have f:bG P t=false:=by
   simp only [bG,a];cases d<;>simp_all
  simp only at h;obtain ⟨v,g,b⟩:=au h;exact one a f g b
 ·cases h
theorem Lf.inV_ok:∀{a:Lf} {v:V} {x:a.den},a.inV v=some x->v=a.toV x
 | .i k,v,x,h=>by
  cases v<;>simp only [Lf.inV] at h<;>try cases h
  split at h
  ·rename_i A;simp only [am] at h;subst h;rw [jL A];rfl
  ·cases h
 | .bo,v,x,h=>by cases v<;>simp only [Lf.inV] at h<;>cases h;rfl
 | .s,v,x,h=>by cases v<;>simp only [Lf.inV] at h<;>cases h;rfl
theorem uc:∀{t:List Lf} {l:List V} {x:den t},vZ t l=some x->l=cells t x
 | [],[],_,_=>rfl
 | [],_::_,_,h=>by simp [vZ] at h
 | [a],[],_,h=>by simp [vZ] at h
 | [a],[v],x,h=>by
  simp only [vZ] at h;rw [Lf.inV_ok h];rfl
 | [a],_::_::_,_,h=>by simp [vZ] at h
 | a::b::t,[],_,h=>by simp [vZ] at h
 | a::b::t,v::vs,x,h=>by
  simp only [vZ] at h;split at h
  ·rename_i y hy;split at h
   ·rename_i d c;simp only [am] at h;subst h;rw [Lf.inV_ok hy,uc c];rfl
   ·cases h
  ·cases h
theorem AG {t:List Lf}:∀{n:Nat} {l:List V} {m:List (den t)},zN t t.length n l=some m->l.length=n*t.length->m.length=n/\l=m.flatMap (cells t)
 | 0,l,m,h,a=>by
  simp only [zN,am] at h;subst h;exact ⟨rfl,by simpa using a⟩
 | n+1,l,m,h,a=>by
  simp only [zN] at h;split at h
  ·rename_i x hx;split at h
   ·rename_i m' c;simp only [am] at h;subst h;rw [fL] at a;obtain ⟨d,b⟩:=AG c (by rw [nh];omega);refine ⟨by simp [d],?_⟩;rw [m8,<-uc hx,<-b,uG]
   ·cases h
  ·cases h
theorem Ds (ι:Inj) {t:List Lf}:∀(m:List (den t)) (a:List Value),VRs ι (m.flatMap (cells t)) a->a=m.flatMap (vals t)
 | [],a,h=>by simpa [VRs] using h
 | x::m,a,h=>by
  rw [m8] at h ⊢;have c:=h.take t.length;have b:=h.drop t.length;rw [sj (by rw [jH];exact aW _),gX (by rw [jH];exact aW _)] at c;rw [Dt,rl (by rw [jH];exact aW _),jH] at b;simp only [yc,jO,ij] at b;rw [<-(mn ι t x _).1 c,<-Ds ι m _ b,uG]
end Go.Abs
