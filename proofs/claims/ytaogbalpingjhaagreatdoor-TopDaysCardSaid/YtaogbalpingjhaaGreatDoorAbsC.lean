
/- What the abstract effect of an operation says of the model's own operation: the parts of it.
   Conditions: none; generic over the program. -/
import Derived.Test.YtaogbalpingjhaaGreatDoorAbsB
import Derived.Laws.Entries
import Derived.Laws.Cells
set_option linter.unusedSimpArgs false
set_option linter.unusedVariables false
namespace Go.Abs
variable {P:Program}
theorem ja {t:TypeId} {d:TypeDesc} (h:P.underlying t=some d):∃i,P.info? t=some i:=by
 unfold Program.underlying at h;cases hi:P.info? t with
 | none=>simp [hi] at h
 | some i=>exact ⟨i,rfl⟩
theorem bg {t:TypeId} (h:Nat.blt 0 (P.cellsOf t)=true):∃i,P.info? t=some i:=by
 unfold Program.cellsOf at h;cases hi:P.info? t with
 | none=>simp [hi] at h
 | some i=>exact ⟨i,rfl⟩
theorem db {t:TypeId} {i:TypeInfo} (h:P.info? t=some i) (w:World):(sizeOf t).run P w=.ok (P.cellsOf t) w:=by
 simp [sizeOf,typeInfo,h,Program.cellsOf]
theorem fR {t:TypeId} {d:TypeDesc} (h:P.underlying t=some d) (w:World):(isAgg t).run P w=.ok (bc P t) w:=by
 unfold isAgg bc;rw [h];simp only [ak,aH h,aq];cases d<;>rfl
theorem uZ (ι:Inj) {x:Value} {v:V} (h:xP x=some v):VR ι v x/\x.cells=#[x]/\oneV v=true:=by
 unfold xP at h;split at h<;>simp_all [Value.cells]
 all_goals (subst h;simp [VR,oneV,Value.cells,Value.oneCell'])
theorem sW (ι:Inj):∀{a:List Value} {l:List V},qy a=some l->VRs ι l a
 | [],_,h=>by simp only [qy,ae] at h;subst h;simp [VRs]
 | x::a,l,h=>by
  simp only [qy] at h;split at h
  ·rename_i v c;split at h
   ·rename_i m b;simp only [ae] at h;subst h;simp only [VRs];exact ⟨x,a,rfl,(uZ ι c).1,sW ι b⟩
   ·cases h
  ·cases h
theorem xA (ι:Inj) {x:Value} {v:V} (h:Ez x=some v):VR ι v x:=by
 unfold Ez at h;split at h
 ·split at h
  ·rename_i a;simp only [ae] at h;subst h;simp only [VR];exact ⟨_,rfl,sW ι a⟩
  ·cases h
 ·exact (uZ ι h).1
theorem nA {k:IntKind}:∀{l:List V} {b:List Int},sR k l=some b->l=b.map (V.i k)
 | [],_,h=>by simp only [sR,ae] at h;subst h;rfl
 | v::l,b,h=>by
  unfold sR at h;split at h<;>rename_i a
  ·cases a
  ·injection a with h1 h2;subst h1 h2;split at h
   ·rename_i c;split at h
    ·rename_i m d;simp only [ae] at h;subst h;rw [nA d,gm c];rfl
    ·cases h
   ·cases h
  ·cases h
theorem nD:∀{l:List V} {b:List (aa)},sQ l=some b->l=b.map V.s
 | [],_,h=>by simp only [sQ,ae] at h;subst h;rfl
 | v::l,b,h=>by
  unfold sQ at h;split at h<;>rename_i a
  ·cases a
  ·injection a with h1 h2;subst h1 h2;split at h
   ·rename_i m c;simp only [ae] at h;subst h;rw [nD c];rfl
   ·cases h
  ·cases h
theorem VRs.of_ints {ι:Inj} {k:IntKind}:∀{C:List Int} {A:List Value},VRs ι (C.map (V.i k)) A->A=C.map (Value.int k)
 | [],_,h=>by simpa [VRs] using h
 | x::C,A,h=>by
  simp only [fU,VRs,VR] at h;obtain ⟨y,F,rfl,rfl,E⟩:=h;simp [VRs.of_ints E]
theorem kV {ι:Inj} {t:TypeId} {l:List V} {a:Array Value} (h:VRs ι l a.toList):VR ι (uY P t l) (.agg a):=by
 unfold uY;split
 ·split
  ·rename_i b;rw [nA b] at h;simp only [VR,kT];have:=VRs.of_ints h;rw [Value.agg.injEq];apply gz;simpa using this
  ·simp only [VR];exact ⟨a,rfl,h⟩
 ·simp only [VR];exact ⟨a,rfl,h⟩
theorem H6 {ι:Inj} {t:TypeId} {v:V} {x:Value} (h:VR ι v x):VR ι (norm P t v) x:=by
 cases v<;>simp only [norm]<;>try exact h
 simp only [VR] at h;obtain ⟨a,rfl,h⟩:=h;exact kV h
theorem m6 (n:Nat):NF (0,0) n:=by
 intro j _ h;simp at h
theorem ym {ι:Inj} {q:Rf} {v:V} {x:Value} (h:VR ι v x) (t:TypeId):BR ι q (FX v) (.cells x.cells t):=by
 have one:∀{v:V} {x:Value},VR ι v x->x.cells=#[x]->BR ι q (.cells [v]) (.cells x.cells t):=by
  intro v x h c;rw [c];exact ⟨_,_,_,rfl,by simp only [VRs];exact ⟨x,[],rfl,h,rfl⟩,m6 _⟩
 cases v with
 | ag l=>
  simp only [VR] at h;obtain ⟨a,rfl,h⟩:=h;exact ⟨a,t,(0,0),rfl,h,m6 _⟩
 | ai k n l=>
  simp only [VR] at h;obtain ⟨b,rfl⟩:=h;exact ⟨t,(0,0),rfl,b,m6 _⟩
 | _=>
  simp only [FX];refine one h ?_;simp only [VR] at h
  first
   | (rcases h with ⟨_,_,rfl⟩ | ⟨_,_,rfl⟩<;>rfl)
   | (rcases h with ⟨_,_,_,_,_,_,rfl⟩ | ⟨_,_,_,rfl⟩<;>rfl)
   | (subst h;rfl)
   | (obtain ⟨a,h,_⟩:=h;obtain ⟨_,_,_,e⟩:=tj _ a;rw [h,e];rfl)
   | (obtain ⟨_,rfl,_⟩:=h;rfl)
   | (obtain ⟨_,_,rfl⟩:=h;rfl)
   | (obtain ⟨_,_,_,_,_,rfl⟩:=h;rfl)
   | exact h.1
theorem rI (k:IntKind) (l:List Int):∀(n j:Nat),ol k l n j=(List.range n).map λi=>V.i k (l.getD (j+i) 0)
 | 0,_=>rfl
 | n+1,j=>by
  simp only [ol,rI k l n (j+1),List.range_succ_eq_map,fU,uX,dG];congr 1;apply List.map_congr_left;intro i _;simp [fN,oq 1 i]
theorem vY (k:IntKind) {l:List Int} {n:Nat} (h:l.length=n):ol k l n 0=l.map (V.i k):=by
 rw [rI];apply vu;intro i;by_cases hi:i<n
 ·simp [hi,h▸hi,List.getD]
 ·simp [hi,dx (Nat.le_of_not_lt (h▸hi))]
theorem jd {ι:Inj} {v:V} {x:Value} (h:VR ι v x):VRs ι (cellsOf v) x.cells.toList:=by
 have one:∀{v:V} {x:Value},VR ι v x->x.cells=#[x]->VRs ι [v] x.cells.toList:=by
  intro v x h b;rw [b];simp only [VRs];exact ⟨x,[],rfl,h,rfl⟩
 cases v with
 | ag l=>
  simp only [VR] at h;obtain ⟨a,rfl,h⟩:=h;exact h
 | ai k n l=>
  simp only [VR] at h;obtain ⟨c,rfl⟩:=h;simp only [cellsOf,vY k c,Value.cells];exact VRs.ints k l
 | _=>
  simp only [cellsOf];refine one h ?_;simp only [VR] at h
  first
   | (rcases h with ⟨_,_,rfl⟩ | ⟨_,_,rfl⟩<;>rfl)
   | (rcases h with ⟨_,_,_,_,_,_,rfl⟩ | ⟨_,_,_,rfl⟩<;>rfl)
   | (subst h;rfl)
   | (obtain ⟨a,h,_⟩:=h;obtain ⟨_,_,_,e⟩:=tj _ a;rw [h,e];rfl)
   | (obtain ⟨_,rfl,_⟩:=h;rfl)
   | (obtain ⟨_,_,rfl⟩:=h;rfl)
   | (obtain ⟨_,_,_,_,_,rfl⟩:=h;rfl)
   | exact h.1
theorem aP {ι:Inj} {T:List (Nat×Option V)} {a:Act} (i:TR ι T a.tmps) {x:Operand} {v:V} (h:opd T x=some v):VR ι v (a.eval x):=by
 cases x with
 | tmp t=>
  simp only [opd] at h;split at h
  ·rename_i u j;simp only [ae] at h;subst h;obtain ⟨y,b,e⟩:=i t u j;simpa [Act.eval,lB,b] using e
  ·cases h
 | const c=>exact xA ι h
 | func f=>
  simp only [opd] at h;split at h
  ·rename_i d;simp only [ae] at h;subst h;simp only [VR,Act.eval];exact ⟨#[],(xa d _).symm,by simp [VRs]⟩
  ·cases h
 | global g=>simp [opd] at h
theorem qU {ι:Inj} {T:List (Nat×Option V)} {a:Act} (c:TR ι T a.tmps):∀{b:List Operand} {l:List V},opds (opd T) b=some l->VRs ι l (b.map a.eval)
 | [],_,h=>by simp only [opds,ae] at h;subst h;simp [VRs]
 | x::b,l,h=>by
  simp only [opds] at h;split at h
  ·rename_i v e;split at h
   ·rename_i m d;simp only [ae] at h;subst h;simp only [fU,VRs];exact ⟨_,_,rfl,aP c e,qU c d⟩
   ·cases h
  ·cases h
theorem uQ {ι:Inj} {v:V} {x:Value} (h:VR ι v x) (a:oneV v=true):x.oneCell'=true:=by
 cases v<;>simp only [oneV,bT] at a<;>simp only [VR] at h<;>first
  | (rcases h with ⟨_,_,rfl⟩ | ⟨_,_,rfl⟩<;>rfl)
  | (rcases h with ⟨_,_,_,_,_,_,rfl⟩ | ⟨_,_,_,rfl⟩<;>rfl)
  | (subst h;rfl)
  | (obtain ⟨b,h,_⟩:=h;obtain ⟨_,_,_,e⟩:=tj _ b;rw [h,e];rfl)
  | (obtain ⟨_,rfl,_⟩:=h;rfl)
  | (obtain ⟨_,_,rfl⟩:=h;rfl)
  | (obtain ⟨_,_,_,_,_,rfl⟩:=h;rfl)
  | exact h.2
theorem ln {ι:Inj} {H:List (Nat×Blk)} {nb b:Nat} {w:World} (f:WR ι H nb w) {l:List V} (i:look H b=some (.cells l)):
  ∃r a e fr,ι b=some (some r)/\w.heap[r.r]?=some (.cells a e fr)/\VRs ι l a.toList/\NF fr a.size:=by
 obtain ⟨r,o,d,h,a,e,fr,rfl,c,g⟩:=(f.blk b _ i (by simp)).real (by simp);exact ⟨r,a,e,fr,d,h,c,g⟩
theorem pV {ι:Inj} {H:List (Nat×Blk)} {nb b:Nat} {w:World} (d:WR ι H nb w) {k:IntKind} {n:Nat} {l:List Int} (h:look H b=some (.ints k n l)):
  ∃r e fr,ι b=some (some r)/\w.heap[r.r]?=some (.cells (l.map (Value.int k)).toArray e fr)/\l.length=n/\NF fr n:=by
 obtain ⟨r,o,c,g,e,fr,rfl,a,f⟩:=(d.blk b _ h (by simp)).real (by simp);exact ⟨r,e,fr,c,g,a,f⟩
theorem fa {ι:Inj} {H:List (Nat×Blk)} {nb b:Nat} {w:World} (g:WR ι H nb w) {t:List Lf} {l:List (den t)} (h:look H b=some (.rows t l)):
  (∃r a e fr,ι b=some (some r)/\w.heap[r.r]?=some (.cells a e fr)/\l.length=r.n/\r.n<=r.k/\r.o+r.k*t.length<=a.size/\(a.toList.drop r.o).take (l.length*t.length)=l.flatMap (vals t)/\(r.fz=true\/NF fr a.size))\/
  (ι b=some none/\l=[]):=by
 rcases g.blk b _ h (by simp) with ⟨r,o,d,f,a,e,fr,rfl,c⟩ | ⟨d,i,f⟩
 ·exact .inl ⟨r,a,e,fr,d,f,c⟩
 ·injection f with c h4;subst c;exact .inr ⟨d,eq_of_heq h4⟩
theorem jM {t:List Lf}:∀(l:List (den t)),(l.flatMap (vals t)).length=l.length*t.length
 | []=>by simp
 | x::l=>by simp [lE,fK,jM l,dB,oq]
theorem Aw {t:List Lf}:∀(l:List (den t)) (j:Nat) (x:den t),l[j]?=some x->((l.flatMap (vals t)).drop (j*t.length)).take t.length=vals t x
 | [],j,x,h=>by simp at h
 | y::l,0,x,h=>by
  simp only [il,ae] at h;subst h;simp only [Nat.zero_mul,ie,lE];rw [o5 (by rw [fK];exact aL _),fO (by rw [fK];exact aL _)]
 | y::l,j+1,x,h=>by
  simp only [xQ] at h;simp only [lE];rw [show (j+1)*t.length=(vals t y).length+j*t.length by rw [fK,dB];omega,yg,nv (by omega)];simp only [wY,jt];exact Aw l j x h
theorem Gj {t:List Lf} {l:List (den t)} {e:Array Value} {o:Nat} (h:(e.toList.drop o).take (l.length*t.length)=l.flatMap (vals t)) {j:Nat} {x:den t} (d:l[j]?=some x):
  (e.toList.drop (o+j*t.length)).take t.length=vals t x/\j*t.length+t.length<=l.length*t.length:=by
 have c:j<l.length:=by
  rcases aA j l.length with a | a
  ·exact a
  ·rw [dx a] at d;cases d
 have b:j*t.length+t.length<=l.length*t.length:=by
  have:=jV t.length (show j+1<=l.length from c);rw [dB] at this;omega
 refine ⟨?_,b⟩;have f:=Aw l j x d;rw [<-h,vc,uq,mY (by omega),su] at f;exact f
theorem jT {t:TypeId} {d:TypeDesc} (f:P.underlying t=some d) (b:bc P t=false) {w:World} {r o:Nat} {a:Array Value} {e:TypeId} {fr:Nat×Nat}
  (h:w.heap[r]?=some (.cells a e fr)) {x:Value} (c:a[o]?=some x):(Instr.loadAt t (.pointer (some ⟨r,o,none⟩))).run P w=.ok x w:=by
 simp only [Instr.loadAt,Instr.sureAddr,loadVar,ak,au,aq,fR f,b,bT,aE,run_load,aO h,c]
theorem jU {t:TypeId} {d:TypeDesc} (k:P.underlying t=some d) (l:bc P t=true) {w:World} {r o:Nat} {b:Array Value} {e:TypeId} {fr:Nat×Nat}
  (h:w.heap[r]?=some (.cells b e fr)) (n:o+P.cellsOf t<=b.size):
  (Instr.loadAt t (.pointer (some ⟨r,o,none⟩))).run P w=.ok (.agg ((b.toList.drop o).take (P.cellsOf t)).toArray) w:=by
 obtain ⟨i,hi⟩:=ja k;have a:((b.toList.drop o).take (P.cellsOf t)).length=P.cellsOf t:=by simp;omega
 have hc:=qC (P:=P) w ⟨r,o,none⟩ ((b.toList.drop o).take (P.cellsOf t)) (λj v c=>by
  have f:j<P.cellsOf t:=by
   rcases aA j (P.cellsOf t) with g | g
   ·exact g
   ·rw [dx (by omega)] at c;cases c
  rw [lS f,iP] at c;have:(⟨r,o,none⟩:Addr).add j=⟨r,o+j,none⟩:=by
   unfold Addr.add;split
   ·rename_i m;subst m;rfl
   ·rfl
  rw [this,aO h];simpa using c)
 rw [a] at hc;simp only [Instr.loadAt,Instr.sureAddr,loadVar,ak,au,aq,fR k,l,aY,db hi,hc]
theorem sB {α:Type} {ι:Inj} {H:List (Nat×Blk)} {nb b o:Nat} {w:World} (m:WR ι H nb w) {blk:Blk} (n:look H b=some blk) {t:TypeId} {d:TypeDesc}
  (p:P.underlying t=some d) (l:bc P t=true) {c:V->Option α} {z:α} (h:kQ P t blk o c=some z):
  ∃v x r,c v=some z/\ι b=some (some r)/\(Instr.loadAt t (.pointer (some ⟨r.r,o,none⟩))).run P w=.ok x w/\VR ι v x:=by
 unfold kQ at h;split at h
 ·split at h
  ·rename_i g;have hle':=ax g;obtain ⟨r,k,e,fr,i,j,f,s⟩:=ln m n;have u:=f.length;have hsz':k.size=k.toList.length:=by simp
   exact ⟨_,_,r,h,i,jU p l j (by omega),kV (by simpa using (f.drop o).take _)⟩
  ·cases h
 ·split at h
  ·rename_i a;simp only [av,eM] at a;obtain ⟨rfl,q⟩:=a;obtain ⟨r,e,fr,i,j,f,s⟩:=pV m n;refine ⟨_,_,r,h,i,jU p l j (by simp;omega),?_⟩;simp only [VR];refine ⟨f,?_⟩;rw [Value.agg.injEq];apply gz;simp only [ie];exact fO (by simp;omega)
  ·cases h
 ·cases h
theorem IT {k:IntKind} {l:List V} {o:Nat} {n:Int} (h:(l.map (tI k))[o]?=some (some n)):l[o]?=some (.i k n):=by
 rw [lw] at h;cases a:l[o]? with
 | none=>rw [a] at h;cases h
 | some v=>
  rw [a] at h;simp only [cK,ae] at h;unfold tI at h;split at h
  ·split at h
   ·rename_i b;rw [gm b];simp only [ae] at h;rw [h]
   ·cases h
  ·cases h
theorem yZ {α:Type} {ι:Inj} {H:List (Nat×Blk)} {nb b o:Nat} {w:World} (s:WR ι H nb w) {blk:Blk} (j:look H b=some blk) {t:TypeId}
  {c:V->Option α} {z:α} (h:sq P t blk o c=some z):
  ∃v x r,c v=some z/\ι b=some (some r)/\(Instr.loadAt t (.pointer (some ⟨r.r,o,none⟩))).run P w=.ok x w/\VR ι v x:=by
 have one:∀{d:TypeDesc} {l:List V} {v:V},P.underlying t=some d->bc P t=false->look H b=some (.cells l)->l[o]?=some v->c v=some z->
   ∃v x r,c v=some z/\ι b=some (some r)/\(Instr.loadAt t (.pointer (some ⟨r.r,o,none⟩))).run P w=.ok x w/\VR ι v x:=by
  intro d l v a i j D hc;obtain ⟨r,G,e,fr,g,f,y,E⟩:=ln s j;obtain ⟨x,F,u⟩:=y.get D;exact ⟨v,x,r,hc,g,jT a i f (by simpa using F),u⟩
 unfold sq at h;split at h
 ·rename_i J a;exact sB s j a (by simp [bc,a]) h
 ·rename_i n e a;exact sB s j a (by simp [bc,a]) h
 ·rename_i k a;have i:bc P t=false:=by simp [bc,a]
  split at h
  ·split at h
   ·rename_i C p;obtain ⟨n,g,f⟩:=ah h;exact one a i j (by rw [nA p];simp [g]) f
   ·obtain ⟨q,g,f⟩:=ah h;obtain ⟨n,rfl,f⟩:=ah f;exact one a i j (IT g) f
  ·rename_i k' n l;obtain ⟨m,g,f⟩:=ah h;obtain ⟨r,e,fr,B,A,K,I⟩:=pV s j;exact ⟨_,.int k' m,r,f,B,jT a i A (by simp [g]),by simp [VR]⟩
  ·cases h
 ·rename_i a;have i:bc P t=false:=by simp [bc,a]
  split at h
  ·split at h
   ·rename_i C p;obtain ⟨n,g,f⟩:=ah h;exact one a i j (by rw [nD p];simp [g]) f
   ·obtain ⟨v,g,f⟩:=ah h;exact one a i j g f
  ·cases h
 ·rename_i d g f y E a;have i:bc P t=false:=by
   simp only [bc,a];cases d<;>simp_all
  split at h
  ·obtain ⟨v,g,f⟩:=ah h;exact one a i j g f
  ·cases h
 ·cases h
theorem D7 {α:Type} {ι:Inj} {w:World} {r o base:Nat} {p:Array Value} {e:TypeId} {fr:Nat×Nat} {l:List V} (B:w.heap[r]?=some (.cells p e fr))
  (D:VRs ι l ((p.toList.drop base).take l.length)) (C:base+l.length<=p.size) {t:TypeId} {c:V->Option α} {z:α} (h:sq P t (.cells l) o c=some z):
  ∃v x,c v=some z/\(Instr.loadAt t (.pointer (some ⟨r,base+o,none⟩))).run P w=.ok x w/\VR ι v x:=by
 have one:∀{d:TypeDesc} {v:V},P.underlying t=some d->bc P t=false->l[o]?=some v->c v=some z->
   ∃v x,c v=some z/\(Instr.loadAt t (.pointer (some ⟨r,base+o,none⟩))).run P w=.ok x w/\VR ι v x:=by
  intro d v a f u hc;obtain ⟨x,E,A⟩:=D.get u;have s:o<l.length:=by
   rcases aA o l.length with m | m
   ·exact m
   ·rw [dx m] at u;cases u
  rw [lS s,iP] at E;exact ⟨v,x,hc,jT a f B (by simpa using E),A⟩
 have j:∀{d:TypeDesc},P.underlying t=some d->bc P t=true->kQ P t (.cells l) o c=some z->
   ∃v x,c v=some z/\(Instr.loadAt t (.pointer (some ⟨r,base+o,none⟩))).run P w=.ok x w/\VR ι v x:=by
  intro d a f h;simp only [kQ] at h;split at h
  ·rename_i y;have hle':=ax y;refine ⟨_,_,h,jU a f B (by omega),kV ?_⟩;have:=(D.drop o).take (P.cellsOf t);rw [vc,su,uq,mY (by omega)] at this;simpa using this
  ·cases h
 unfold sq at h;split at h
 ·rename_i G a;exact j a (by simp [bc,a]) h
 ·rename_i n e a;exact j a (by simp [bc,a]) h
 ·rename_i k a;have f:bc P t=false:=by simp [bc,a]
  simp only at h;split at h
  ·rename_i F i;obtain ⟨n,g,b⟩:=ah h;exact one a f (by rw [nA i];simp [g]) b
  ·obtain ⟨q,g,b⟩:=ah h;obtain ⟨n,rfl,b⟩:=ah b;exact one a f (IT g) b
 ·rename_i a;have f:bc P t=false:=by simp [bc,a]
  simp only at h;split at h
  ·rename_i F i;obtain ⟨n,g,b⟩:=ah h;exact one a f (by rw [nD i];simp [g]) b
  ·obtain ⟨v,g,b⟩:=ah h;exact one a f g b
 ·rename_i d g b H I a;have f:bc P t=false:=by
   simp only [bc,a];cases d<;>simp_all
  simp only at h;obtain ⟨v,g,b⟩:=ah h;exact one a f g b
 ·cases h
theorem Lf.inV_ok:∀{a:Lf} {v:V} {x:a.den},a.inV v=some x->v=a.toV x
 | .i k,v,x,h=>by
  cases v<;>simp only [Lf.inV] at h<;>try cases h
  split at h
  ·rename_i A;simp only [ae] at h;subst h;rw [gm A];rfl
  ·cases h
 | .bo,v,x,h=>by cases v<;>simp only [Lf.inV] at h<;>cases h;rfl
 | .s,v,x,h=>by cases v<;>simp only [Lf.inV] at h<;>cases h;rfl
theorem pI:∀{t:List Lf} {l:List V} {x:den t},rr t l=some x->l=cells t x
 | [],[],_,_=>rfl
 | [],_::_,_,h=>by simp [rr] at h
 | [a],[],_,h=>by simp [rr] at h
 | [a],[v],x,h=>by
  simp only [rr] at h;rw [Lf.inV_ok h];rfl
 | [a],_::_::_,_,h=>by simp [rr] at h
 | a::b::t,[],_,h=>by simp [rr] at h
 | a::b::t,v::vs,x,h=>by
  simp only [rr] at h;split at h
  ·rename_i y d;split at h
   ·rename_i e c;simp only [ae] at h;subst h;rw [Lf.inV_ok d,pI c];rfl
   ·cases h
  ·cases h
theorem uM {t:List Lf}:∀{n:Nat} {l:List V} {m:List (den t)},wc t t.length n l=some m->l.length=n*t.length->m.length=n/\l=m.flatMap (cells t)
 | 0,l,m,h,a=>by
  simp only [wc,ae] at h;subst h;exact ⟨rfl,by simpa using a⟩
 | n+1,l,m,h,a=>by
  simp only [wc] at h;split at h
  ·rename_i x e;split at h
   ·rename_i m' b;simp only [ae] at h;subst h;rw [dB] at a;obtain ⟨c,d⟩:=uM b (by rw [km];omega);refine ⟨by simp [c],?_⟩;rw [lE,<-pI e,<-d,qd]
   ·cases h
  ·cases h
theorem zg (ι:Inj) {t:List Lf}:∀(m:List (den t)) (a:List Value),VRs ι (m.flatMap (cells t)) a->a=m.flatMap (vals t)
 | [],a,h=>by simpa [VRs] using h
 | x::m,a,h=>by
  rw [lE] at h ⊢;have c:=h.take t.length;have b:=h.drop t.length;rw [o5 (by rw [gu];exact aL _),fO (by rw [gu];exact aL _)] at c;rw [yg,nv (by rw [gu];exact aL _),gu] at b;simp only [Nat.sub_self,ie,jt] at b;rw [<-(ip ι t x _).1 c,<-zg ι m _ b,qd]
end Go.Abs
