
/- What the abstract effect of an operation says of the model's own operation: the parts of it.
   Conditions: none; generic over the program. -/
import Derived.Test.YtaogbalpingjhaaGreatDoorAbsB
import Derived.Laws.Entries
import Derived.Laws.Cells
set_option linter.unusedSimpArgs false
set_option linter.unusedVariables false
namespace Go.Abs
variable {P:Program}
theorem lc {t:TypeId} {d:TypeDesc} (h:P.underlying t=some d):∃i,P.info? t=some i:=by
 unfold Program.underlying at h;cases hi:P.info? t with
 | none=>simp [hi] at h
 | some i=>exact ⟨i,rfl⟩
theorem bz {t:TypeId} (h:Nat.blt 0 (P.cellsOf t)=true):∃i,P.info? t=some i:=by
 unfold Program.cellsOf at h;cases hi:P.info? t with
 | none=>simp [hi] at h
 | some i=>exact ⟨i,rfl⟩
theorem eV {t:TypeId} {i:TypeInfo} (h:P.info? t=some i) (w:World):(sizeOf t).run P w=.ok (P.cellsOf t) w:=by
 simp [sizeOf,typeInfo,h,Program.cellsOf]
theorem iW {t:TypeId} {d:TypeDesc} (h:P.underlying t=some d) (w:World):(isAgg t).run P w=.ok (bw P t) w:=by
 unfold isAgg bw;rw [h];simp only [aq,aN h,ax];cases d<;>rfl
theorem Ah (ι:Inj) {x:Value} {v:V} (h:D3 x=some v):VR ι v x/\x.cells=#[x]/\oneV v=true:=by
 unfold D3 at h;split at h<;>simp_all [Value.cells]
 all_goals (subst h;simp [VR,oneV,Value.cells,Value.oneCell'])
theorem wk (ι:Inj):∀{a:List Value} {l:List V},uT a=some l->VRs ι l a
 | [],_,h=>by simp only [uT,ah] at h;subst h;simp [VRs]
 | x::a,l,h=>by
  simp only [uT] at h;split at h
  ·rename_i v c;split at h
   ·rename_i m b;simp only [ah] at h;subst h;simp only [VRs];exact ⟨x,a,rfl,(Ah ι c).1,wk ι b⟩
   ·cases h
  ·cases h
theorem Ee (ι:Inj) {x:Value} {v:V} (h:MF x=some v):VR ι v x:=by
 unfold MF at h;split at h
 ·split at h
  ·rename_i a;simp only [ah] at h;subst h;simp only [VR];exact ⟨_,rfl,wk ι a⟩
  ·cases h
 ·exact (Ah ι h).1
theorem qO {k:IntKind}:∀{l:List V} {b:List Int},xc k l=some b->l=b.map (V.i k)
 | [],_,h=>by simp only [xc,ah] at h;subst h;rfl
 | v::l,b,h=>by
  unfold xc at h;split at h<;>rename_i a
  ·cases a
  ·injection a with h1 h2;subst h1 h2;split at h
   ·rename_i c;split at h
    ·rename_i m d;simp only [ah] at h;subst h;rw [qO d,jd c];rfl
    ·cases h
   ·cases h
  ·cases h
theorem qN:∀{l:List V} {b:List (aa)},wQ l=some b->l=b.map V.s
 | [],_,h=>by simp only [wQ,ah] at h;subst h;rfl
 | v::l,b,h=>by
  unfold wQ at h;split at h<;>rename_i a
  ·cases a
  ·injection a with h1 h2;subst h1 h2;split at h
   ·rename_i m c;simp only [ah] at h;subst h;rw [qN c];rfl
   ·cases h
  ·cases h
theorem VRs.of_ints {ι:Inj} {k:IntKind}:∀{C:List Int} {E:List Value},VRs ι (C.map (V.i k)) E->E=C.map (Value.int k)
 | [],_,h=>by simpa [VRs] using h
 | x::C,E,h=>by
  simp only [fg,VRs,VR] at h;obtain ⟨y,G,rfl,rfl,F⟩:=h;simp [VRs.of_ints F]
theorem nv {ι:Inj} {t:TypeId} {l:List V} {a:Array Value} (h:VRs ι l a.toList):VR ι (AL P t l) (.agg a):=by
 unfold AL;split
 ·split
  ·rename_i hx;rw [qO hx] at h;simp only [VR,jD];have:=VRs.of_ints h;rw [Value.agg.injEq];apply jv;simpa using this
  ·simp only [VR];exact ⟨a,rfl,h⟩
 ·simp only [VR];exact ⟨a,rfl,h⟩
theorem P2 {ι:Inj} {t:TypeId} {v:V} {x:Value} (h:VR ι v x):VR ι (norm P t v) x:=by
 cases v<;>simp only [norm]<;>try exact h
 simp only [VR] at h;obtain ⟨a,rfl,h⟩:=h;exact nv h
theorem ql (n:Nat):NF (0,0) n:=by
 intro j _ h;simp at h
theorem Eh {ι:Inj} {q:Rf} {v:V} {x:Value} (h:VR ι v x) (t:TypeId):BR ι q (LL v) (.cells x.cells t):=by
 have one:∀{v:V} {x:Value},VR ι v x->x.cells=#[x]->BR ι q (.cells [v]) (.cells x.cells t):=by
  intro v x h hx;rw [hx];exact ⟨_,_,_,rfl,by simp only [VRs];exact ⟨x,[],rfl,h,rfl⟩,ql _⟩
 cases v with
 | ag l=>
  simp only [VR] at h;obtain ⟨a,rfl,h⟩:=h;exact ⟨a,t,(0,0),rfl,h,ql _⟩
 | ai k n l=>
  simp only [VR] at h;obtain ⟨b,rfl⟩:=h;exact ⟨t,(0,0),rfl,b,ql _⟩
 | _=>
  simp only [LL];refine one h ?_;simp only [VR] at h
  first
   | (rcases h with ⟨_,_,rfl⟩ | ⟨_,_,rfl⟩<;>rfl)
   | (rcases h with ⟨_,_,_,_,_,_,rfl⟩ | ⟨_,_,_,rfl⟩<;>rfl)
   | (subst h;rfl)
   | (obtain ⟨a,h,_⟩:=h;obtain ⟨_,_,_,e⟩:=wL _ a;rw [h,e];rfl)
   | (obtain ⟨_,rfl,_⟩:=h;rfl)
   | (obtain ⟨_,_,rfl⟩:=h;rfl)
   | (obtain ⟨_,_,_,_,_,rfl⟩:=h;rfl)
   | exact h.1
theorem uW (k:IntKind) (l:List Int):∀(n j:Nat),qV k l n j=(List.range n).map λi=>V.i k (l.getD (j+i) 0)
 | 0,_=>rfl
 | n+1,j=>by
  simp only [qV,uW k l n (j+1),List.range_succ_eq_map,fg,sc,cP];congr 1;apply List.map_congr_left;intro i _;simp [gG,nz 1 i]
theorem AH (k:IntKind) {l:List Int} {n:Nat} (h:l.length=n):qV k l n 0=l.map (V.i k):=by
 rw [uW];apply xf;intro i;by_cases hi:i<n
 ·simp [hi,h▸hi,List.getD]
 ·simp [hi,eX (Nat.le_of_not_lt (h▸hi))]
theorem lq {ι:Inj} {v:V} {x:Value} (h:VR ι v x):VRs ι (cellsOf v) x.cells.toList:=by
 have one:∀{v:V} {x:Value},VR ι v x->x.cells=#[x]->VRs ι [v] x.cells.toList:=by
  intro v x h hx;rw [hx];simp only [VRs];exact ⟨x,[],rfl,h,rfl⟩
 cases v with
 | ag l=>
  simp only [VR] at h;obtain ⟨a,rfl,h⟩:=h;exact h
 | ai k n l=>
  simp only [VR] at h;obtain ⟨b,rfl⟩:=h;simp only [cellsOf,AH k b,Value.cells];exact VRs.ints k l
 | _=>
  simp only [cellsOf];refine one h ?_;simp only [VR] at h
  first
   | (rcases h with ⟨_,_,rfl⟩ | ⟨_,_,rfl⟩<;>rfl)
   | (rcases h with ⟨_,_,_,_,_,_,rfl⟩ | ⟨_,_,_,rfl⟩<;>rfl)
   | (subst h;rfl)
   | (obtain ⟨a,h,_⟩:=h;obtain ⟨_,_,_,e⟩:=wL _ a;rw [h,e];rfl)
   | (obtain ⟨_,rfl,_⟩:=h;rfl)
   | (obtain ⟨_,_,rfl⟩:=h;rfl)
   | (obtain ⟨_,_,_,_,_,rfl⟩:=h;rfl)
   | exact h.1
theorem aZ {ι:Inj} {T:List (Nat×Option V)} {a:Act} (b:TR ι T a.tmps) {x:Operand} {v:V} (h:opd T x=some v):VR ι v (a.eval x):=by
 cases x with
 | tmp t=>
  simp only [opd] at h;split at h
  ·rename_i u j;simp only [ah] at h;subst h;obtain ⟨y,e,i⟩:=b t u j;simpa [Act.eval,oL,e] using i
  ·cases h
 | const c=>exact Ee ι h
 | func f=>
  simp only [opd] at h;split at h
  ·rename_i d;simp only [ah] at h;subst h;simp only [VR,Act.eval];exact ⟨#[],(CM d _).symm,by simp [VRs]⟩
  ·cases h
 | global g=>simp [opd] at h
theorem uV {ι:Inj} {T:List (Nat×Option V)} {a:Act} (c:TR ι T a.tmps):∀{b:List Operand} {l:List V},opds (opd T) b=some l->VRs ι l (b.map a.eval)
 | [],_,h=>by simp only [opds,ah] at h;subst h;simp [VRs]
 | x::b,l,h=>by
  simp only [opds] at h;split at h
  ·rename_i v e;split at h
   ·rename_i m d;simp only [ah] at h;subst h;simp only [fg,VRs];exact ⟨_,_,rfl,aZ c e,uV c d⟩
   ·cases h
  ·cases h
theorem AM {ι:Inj} {v:V} {x:Value} (h:VR ι v x) (b:oneV v=true):x.oneCell'=true:=by
 cases v<;>simp only [oneV,bE] at b<;>simp only [VR] at h<;>first
  | (rcases h with ⟨_,_,rfl⟩ | ⟨_,_,rfl⟩<;>rfl)
  | (rcases h with ⟨_,_,_,_,_,_,rfl⟩ | ⟨_,_,_,rfl⟩<;>rfl)
  | (subst h;rfl)
  | (obtain ⟨a,h,_⟩:=h;obtain ⟨_,_,_,e⟩:=wL _ a;rw [h,e];rfl)
  | (obtain ⟨_,rfl,_⟩:=h;rfl)
  | (obtain ⟨_,_,rfl⟩:=h;rfl)
  | (obtain ⟨_,_,_,_,_,rfl⟩:=h;rfl)
  | exact h.2
theorem oc {ι:Inj} {H:List (Nat×Blk)} {nb b:Nat} {w:World} (d:WR ι H nb w) {l:List V} (i:look H b=some (.cells l)):
  ∃r a e fr,ι b=some (some r)/\w.heap[r.r]?=some (.cells a e fr)/\VRs ι l a.toList/\NF fr a.size:=by
 obtain ⟨r,o,g,h,a,e,fr,rfl,f,c⟩:=(d.blk b _ i (by simp)).real (by simp);exact ⟨r,a,e,fr,g,h,f,c⟩
theorem sT {ι:Inj} {H:List (Nat×Blk)} {nb b:Nat} {w:World} (c:WR ι H nb w) {k:IntKind} {n:Nat} {l:List Int} (h:look H b=some (.ints k n l)):
  ∃r e fr,ι b=some (some r)/\w.heap[r.r]?=some (.cells (l.map (Value.int k)).toArray e fr)/\l.length=n/\NF fr n:=by
 obtain ⟨r,o,f,g,e,fr,rfl,d,a⟩:=(c.blk b _ h (by simp)).real (by simp);exact ⟨r,e,fr,f,g,d,a⟩
theorem ib {ι:Inj} {H:List (Nat×Blk)} {nb b:Nat} {w:World} (g:WR ι H nb w) {t:List Lf} {l:List (den t)} (h:look H b=some (.rows t l)):
  (∃r a e fr,ι b=some (some r)/\w.heap[r.r]?=some (.cells a e fr)/\l.length=r.n/\r.n<=r.k/\r.o+r.k*t.length<=a.size/\(a.toList.drop r.o).take (l.length*t.length)=l.flatMap (vals t)/\(r.fz=true\/NF fr a.size))\/
  (ι b=some none/\l=[]):=by
 rcases g.blk b _ h (by simp) with ⟨r,o,d,f,a,e,fr,rfl,c⟩ | ⟨d,i,f⟩
 ·exact .inl ⟨r,a,e,fr,d,f,c⟩
 ·injection f with c h4;subst c;exact .inr ⟨d,eq_of_heq h4⟩
theorem lY {t:List Lf}:∀(l:List (den t)),(l.flatMap (vals t)).length=l.length*t.length
 | []=>by simp
 | x::l=>by simp [oa,iK,lY l,fM,nz]
theorem Jx {t:List Lf}:∀(l:List (den t)) (j:Nat) (x:den t),l[j]?=some x->((l.flatMap (vals t)).drop (j*t.length)).take t.length=vals t x
 | [],j,x,h=>by simp at h
 | y::l,0,x,h=>by
  simp only [kn,ah] at h;subst h;simp only [yw,cH,oa];rw [rz (by rw [iK];exact aM _),iP (by rw [iK];exact aM _)]
 | y::l,j+1,x,h=>by
  simp only [DI] at h;simp only [oa];rw [show (j+1)*t.length=(vals t y).length+j*t.length by rw [iK,fM];omega,C2,kP (by omega)];simp only [Cd,da];exact Jx l j x h
theorem NL {t:List Lf} {l:List (den t)} {e:Array Value} {o:Nat} (h:(e.toList.drop o).take (l.length*t.length)=l.flatMap (vals t)) {j:Nat} {x:den t} (a:l[j]?=some x):
  (e.toList.drop (o+j*t.length)).take t.length=vals t x/\j*t.length+t.length<=l.length*t.length:=by
 have c:j<l.length:=by
  rcases aE j l.length with b | b
  ·exact b
  ·rw [eX b] at a;cases a
 have d:j*t.length+t.length<=l.length*t.length:=by
  have:=l7 t.length (show j+1<=l.length from c);rw [fM] at this;omega
 refine ⟨?_,d⟩;have f:=Jx l j x a;rw [<-h,wt,yd,qm (by omega),iV] at f;exact f
theorem mn {t:TypeId} {d:TypeDesc} (b:P.underlying t=some d) (c:bw P t=false) {w:World} {r o:Nat} {a:Array Value} {e:TypeId} {fr:Nat×Nat}
  (h:w.heap[r]?=some (.cells a e fr)) {x:Value} (hx:a[o]?=some x):(Instr.loadAt t (.pointer (some ⟨r,o,none⟩))).run P w=.ok x w:=by
 simp only [Instr.loadAt,Instr.sureAddr,loadVar,aq,aB,ax,iW b,c,bE,aC,run_load,aV h,hx]
theorem mq {t:TypeId} {d:TypeDesc} (k:P.underlying t=some d) (m:bw P t=true) {w:World} {r o:Nat} {a:Array Value} {e:TypeId} {fr:Nat×Nat}
  (h:w.heap[r]?=some (.cells a e fr)) (n:o+P.cellsOf t<=a.size):
  (Instr.loadAt t (.pointer (some ⟨r,o,none⟩))).run P w=.ok (.agg ((a.toList.drop o).take (P.cellsOf t)).toArray) w:=by
 obtain ⟨i,hi⟩:=lc k;have b:((a.toList.drop o).take (P.cellsOf t)).length=P.cellsOf t:=by simp;omega
 have hc:=uR (P:=P) w ⟨r,o,none⟩ ((a.toList.drop o).take (P.cellsOf t)) (λj v c=>by
  have f:j<P.cellsOf t:=by
   rcases aE j (P.cellsOf t) with g | g
   ·exact g
   ·rw [eX (by omega)] at c;cases c
  rw [ow f,kO] at c;have:(⟨r,o,none⟩:Addr).add j=⟨r,o+j,none⟩:=by
   unfold Addr.add;split
   ·rename_i l;subst l;rfl
   ·rfl
  rw [this,aV h];simpa using c)
 rw [b] at hc;simp only [Instr.loadAt,Instr.sureAddr,loadVar,aq,aB,ax,iW k,m,aI,eV hi,hc]
theorem wK {α:Type} {ι:Inj} {H:List (Nat×Blk)} {nb b o:Nat} {w:World} (n:WR ι H nb w) {blk:Blk} (p:look H b=some blk) {t:TypeId} {d:TypeDesc}
  (m:P.underlying t=some d) (l:bw P t=true) {c:V->Option α} {z:α} (h:na P t blk o c=some z):
  ∃v x r,c v=some z/\ι b=some (some r)/\(Instr.loadAt t (.pointer (some ⟨r.r,o,none⟩))).run P w=.ok x w/\VR ι v x:=by
 unfold na at h;split at h
 ·split at h
  ·rename_i j;have hle':=aD j;obtain ⟨r,k,e,fr,g,i,f,s⟩:=oc n p;have u:=f.length;have hsz':k.size=k.toList.length:=by simp
   exact ⟨_,_,r,h,g,mq m l i (by omega),nv (by simpa using (f.drop o).take _)⟩
  ·cases h
 ·split at h
  ·rename_i a;simp only [az,gP] at a;obtain ⟨rfl,q⟩:=a;obtain ⟨r,e,fr,g,i,f,s⟩:=sT n p;refine ⟨_,_,r,h,g,mq m l i (by simp;omega),?_⟩;simp only [VR];refine ⟨f,?_⟩;rw [Value.agg.injEq];apply jv;simp only [cH];exact iP (by simp;omega)
  ·cases h
 ·cases h
theorem QX {k:IntKind} {l:List V} {o:Nat} {n:Int} (h:(l.map (tI k))[o]?=some (some n)):l[o]?=some (.i k n):=by
 rw [l6] at h;cases a:l[o]? with
 | none=>rw [a] at h;cases h
 | some v=>
  rw [a] at h;simp only [dC,ah] at h;unfold tI at h;split at h
  ·split at h
   ·rename_i b;rw [jd b];simp only [ah] at h;rw [h]
   ·cases h
  ·cases h
theorem Dz {α:Type} {ι:Inj} {H:List (Nat×Blk)} {nb b o:Nat} {w:World} (s:WR ι H nb w) {blk:Blk} (j:look H b=some blk) {t:TypeId}
  {c:V->Option α} {z:α} (h:vN P t blk o c=some z):
  ∃v x r,c v=some z/\ι b=some (some r)/\(Instr.loadAt t (.pointer (some ⟨r.r,o,none⟩))).run P w=.ok x w/\VR ι v x:=by
 have one:∀{d:TypeDesc} {l:List V} {v:V},P.underlying t=some d->bw P t=false->look H b=some (.cells l)->l[o]?=some v->c v=some z->
   ∃v x r,c v=some z/\ι b=some (some r)/\(Instr.loadAt t (.pointer (some ⟨r.r,o,none⟩))).run P w=.ok x w/\VR ι v x:=by
  intro d l v a i j B hc;obtain ⟨r,F,e,fr,g,f,y,A⟩:=oc s j;obtain ⟨x,hx,u⟩:=y.get B;exact ⟨v,x,r,hc,g,mn a i f (by simpa using hx),u⟩
 unfold vN at h;split at h
 ·rename_i G a;exact wK s j a (by simp [bw,a]) h
 ·rename_i n e a;exact wK s j a (by simp [bw,a]) h
 ·rename_i k a;have i:bw P t=false:=by simp [bw,a]
  split at h
  ·split at h
   ·rename_i C p;obtain ⟨n,g,f⟩:=ak h;exact one a i j (by rw [qO p];simp [g]) f
   ·obtain ⟨q,g,f⟩:=ak h;obtain ⟨n,rfl,f⟩:=ak f;exact one a i j (QX g) f
  ·rename_i k' n l;obtain ⟨m,g,f⟩:=ak h;obtain ⟨r,e,fr,E,D,J,I⟩:=sT s j;exact ⟨_,.int k' m,r,f,E,mn a i D (by simp [g]),by simp [VR]⟩
  ·cases h
 ·rename_i a;have i:bw P t=false:=by simp [bw,a]
  split at h
  ·split at h
   ·rename_i C p;obtain ⟨n,g,f⟩:=ak h;exact one a i j (by rw [qN p];simp [g]) f
   ·obtain ⟨v,g,f⟩:=ak h;exact one a i j g f
  ·cases h
 ·rename_i d g f y A a;have i:bw P t=false:=by
   simp only [bw,a];cases d<;>simp_all
  split at h
  ·obtain ⟨v,g,f⟩:=ak h;exact one a i j g f
  ·cases h
 ·cases h
theorem KU {α:Type} {ι:Inj} {w:World} {r o base:Nat} {u:Array Value} {e:TypeId} {fr:Nat×Nat} {l:List V} (C:w.heap[r]?=some (.cells u e fr))
  (D:VRs ι l ((u.toList.drop base).take l.length)) (B:base+l.length<=u.size) {t:TypeId} {c:V->Option α} {z:α} (h:vN P t (.cells l) o c=some z):
  ∃v x,c v=some z/\(Instr.loadAt t (.pointer (some ⟨r,base+o,none⟩))).run P w=.ok x w/\VR ι v x:=by
 have one:∀{d:TypeDesc} {v:V},P.underlying t=some d->bw P t=false->l[o]?=some v->c v=some z->
   ∃v x,c v=some z/\(Instr.loadAt t (.pointer (some ⟨r,base+o,none⟩))).run P w=.ok x w/\VR ι v x:=by
  intro d v a f s hc;obtain ⟨x,hx,m⟩:=D.get s;have y:o<l.length:=by
   rcases aE o l.length with p | p
   ·exact p
   ·rw [eX p] at s;cases s
  rw [ow y,kO] at hx;exact ⟨v,x,hc,mn a f C (by simpa using hx),m⟩
 have j:∀{d:TypeDesc},P.underlying t=some d->bw P t=true->na P t (.cells l) o c=some z->
   ∃v x,c v=some z/\(Instr.loadAt t (.pointer (some ⟨r,base+o,none⟩))).run P w=.ok x w/\VR ι v x:=by
  intro d a f h;simp only [na] at h;split at h
  ·rename_i A;have hle':=aD A;refine ⟨_,_,h,mq a f C (by omega),nv ?_⟩;have:=(D.drop o).take (P.cellsOf t);rw [wt,iV,yd,qm (by omega)] at this;simpa using this
  ·cases h
 unfold vN at h;split at h
 ·rename_i F a;exact j a (by simp [bw,a]) h
 ·rename_i n e a;exact j a (by simp [bw,a]) h
 ·rename_i k a;have f:bw P t=false:=by simp [bw,a]
  simp only at h;split at h
  ·rename_i E i;obtain ⟨n,g,b⟩:=ak h;exact one a f (by rw [qO i];simp [g]) b
  ·obtain ⟨q,g,b⟩:=ak h;obtain ⟨n,rfl,b⟩:=ak b;exact one a f (QX g) b
 ·rename_i a;have f:bw P t=false:=by simp [bw,a]
  simp only at h;split at h
  ·rename_i E i;obtain ⟨n,g,b⟩:=ak h;exact one a f (by rw [qN i];simp [g]) b
  ·obtain ⟨v,g,b⟩:=ak h;exact one a f g b
 ·rename_i d g b H G a;have f:bw P t=false:=by
   simp only [bw,a];cases d<;>simp_all
  simp only at h;obtain ⟨v,g,b⟩:=ak h;exact one a f g b
 ·cases h
theorem Lf.inV_ok:∀{a:Lf} {v:V} {x:a.den},a.inV v=some x->v=a.toV x
 | .i k,v,x,h=>by
  cases v<;>simp only [Lf.inV] at h<;>try cases h
  split at h
  ·rename_i C;simp only [ah] at h;subst h;rw [jd C];rfl
  ·cases h
 | .bo,v,x,h=>by cases v<;>simp only [Lf.inV] at h<;>cases h;rfl
 | .s,v,x,h=>by cases v<;>simp only [Lf.inV] at h<;>cases h;rfl
theorem s9:∀{t:List Lf} {l:List V} {x:den t},vr t l=some x->l=cells t x
 | [],[],_,_=>rfl
 | [],_::_,_,h=>by simp [vr] at h
 | [a],[],_,h=>by simp [vr] at h
 | [a],[v],x,h=>by
  simp only [vr] at h;rw [Lf.inV_ok h];rfl
 | [a],_::_::_,_,h=>by simp [vr] at h
 | a::b::t,[],_,h=>by simp [vr] at h
 | a::b::t,v::vs,x,h=>by
  simp only [vr] at h;split at h
  ·rename_i y hy;split at h
   ·rename_i d c;simp only [ah] at h;subst h;rw [Lf.inV_ok hy,s9 c];rfl
   ·cases h
  ·cases h
theorem Ac {t:List Lf}:∀{n:Nat} {l:List V} {m:List (den t)},zZ t t.length n l=some m->l.length=n*t.length->m.length=n/\l=m.flatMap (cells t)
 | 0,l,m,h,a=>by
  simp only [zZ,ah] at h;subst h;exact ⟨rfl,by simpa using a⟩
 | n+1,l,m,h,a=>by
  simp only [zZ] at h;split at h
  ·rename_i x hx;split at h
   ·rename_i m' d;simp only [ah] at h;subst h;rw [fM] at a;obtain ⟨b,c⟩:=Ac d (by rw [cZ];omega);refine ⟨by simp [b],?_⟩;rw [oa,<-s9 hx,<-c,qj]
   ·cases h
  ·cases h
theorem Eu (ι:Inj) {t:List Lf}:∀(m:List (den t)) (a:List Value),VRs ι (m.flatMap (cells t)) a->a=m.flatMap (vals t)
 | [],a,h=>by simpa [VRs] using h
 | x::m,a,h=>by
  rw [oa] at h ⊢;have c:=h.take t.length;have b:=h.drop t.length;rw [rz (by rw [jp];exact aM _),iP (by rw [jp];exact aM _)] at c;rw [C2,kP (by rw [jp];exact aM _),jp] at b;simp only [yI,cH,da] at b;rw [<-(kr ι t x _).1 c,<-Eu ι m _ b,qj]
end Go.Abs
