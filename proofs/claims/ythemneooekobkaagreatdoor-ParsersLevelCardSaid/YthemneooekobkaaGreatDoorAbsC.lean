
/- What the abstract effect of an operation says of the model's own operation: the parts of it.
   Conditions: none; generic over the program. -/
import Derived.Test.YthemneooekobkaaGreatDoorAbsB
import Derived.Laws.Entries
import Derived.Laws.Cells
set_option linter.unusedSimpArgs false
set_option linter.unusedVariables false
namespace Go.Abs
variable {P:Program}
theorem lj {t:TypeId} {d:TypeDesc} (h:P.underlying t=some d):∃i,P.info? t=some i:=by
 unfold Program.underlying at h;cases hi:P.info? t with
 | none=>simp [hi] at h
 | some i=>exact ⟨i,rfl⟩
theorem bM {t:TypeId} (h:Nat.blt 0 (P.cellsOf t)=true):∃i,P.info? t=some i:=by
 unfold Program.cellsOf at h;cases hi:P.info? t with
 | none=>simp [hi] at h
 | some i=>exact ⟨i,rfl⟩
theorem fb {t:TypeId} {i:TypeInfo} (h:P.info? t=some i) (w:World):(sizeOf t).run P w=.ok (P.cellsOf t) w:=by
 simp [sizeOf,typeInfo,h,Program.cellsOf]
theorem jk {t:TypeId} {d:TypeDesc} (h:P.underlying t=some d) (w:World):(isAgg t).run P w=.ok (bJ P t) w:=by
 unfold isAgg bJ;rw [h];simp only [ax,aS h,az];cases d<;>rfl
theorem Ao (ι:Inj) {x:Value} {v:V} (h:EG x=some v):VR ι v x/\x.cells=#[x]/\oneV v=true:=by
 unfold EG at h;split at h<;>simp_all [Value.cells]
 all_goals (subst h;simp [VR,oneV,Value.cells,Value.oneCell'])
theorem wZ (ι:Inj):∀{a:List Value} {l:List V},uF a=some l->VRs ι l a
 | [],_,h=>by simp only [uF,aq] at h;subst h;simp [VRs]
 | x::a,l,h=>by
  simp only [uF] at h;split at h
  ·rename_i v c;split at h
   ·rename_i m b;simp only [aq] at h;subst h;simp only [VRs];exact ⟨x,a,rfl,(Ao ι c).1,wZ ι b⟩
   ·cases h
  ·cases h
theorem DK (ι:Inj) {x:Value} {v:V} (h:Ks x=some v):VR ι v x:=by
 unfold Ks at h;split at h
 ·split at h
  ·rename_i a;simp only [aq] at h;subst h;simp only [VR];exact ⟨_,rfl,wZ ι a⟩
  ·cases h
 ·exact (Ao ι h).1
theorem qT {k:IntKind}:∀{l:List V} {b:List Int},wi k l=some b->l=b.map (V.i k)
 | [],_,h=>by simp only [wi,aq] at h;subst h;rfl
 | v::l,b,h=>by
  unfold wi at h;split at h<;>rename_i a
  ·cases a
  ·injection a with h1 h2;subst h1 h2;split at h
   ·rename_i d;split at h
    ·rename_i m c;simp only [aq] at h;subst h;rw [qT c,jo d];rfl
    ·cases h
   ·cases h
  ·cases h
theorem qO:∀{l:List V} {b:List (aa)},wS l=some b->l=b.map V.s
 | [],_,h=>by simp only [wS,aq] at h;subst h;rfl
 | v::l,b,h=>by
  unfold wS at h;split at h<;>rename_i a
  ·cases a
  ·injection a with h1 h2;subst h1 h2;split at h
   ·rename_i m c;simp only [aq] at h;subst h;rw [qO c];rfl
   ·cases h
  ·cases h
theorem VRs.of_ints {ι:Inj} {k:IntKind}:∀{C:List Int} {E:List Value},VRs ι (C.map (V.i k)) E->E=C.map (Value.int k)
 | [],_,h=>by simpa [VRs] using h
 | x::C,E,h=>by
  simp only [fC,VRs,VR] at h;obtain ⟨y,G,rfl,rfl,F⟩:=h;simp [VRs.of_ints F]
theorem nH {ι:Inj} {t:TypeId} {l:List V} {a:Array Value} (h:VRs ι l a.toList):VR ι (zC P t l) (.agg a):=by
 unfold zC;split
 ·split
  ·rename_i b;rw [qT b] at h;simp only [VR,ke];have:=VRs.of_ints h;rw [Value.agg.injEq];apply kY;simpa using this
  ·simp only [VR];exact ⟨a,rfl,h⟩
 ·simp only [VR];exact ⟨a,rfl,h⟩
theorem Oo {ι:Inj} {t:TypeId} {v:V} {x:Value} (h:VR ι v x):VR ι (norm P t v) x:=by
 cases v<;>simp only [norm]<;>try exact h
 simp only [VR] at h;obtain ⟨a,rfl,h⟩:=h;exact nH h
theorem qx (n:Nat):NF (0,0) n:=by
 intro j _ h;simp at h
theorem E2 {ι:Inj} {q:Rf} {v:V} {x:Value} (h:VR ι v x) (t:TypeId):BR ι q (Kq v) (.cells x.cells t):=by
 have one:∀{v:V} {x:Value},VR ι v x->x.cells=#[x]->BR ι q (.cells [v]) (.cells x.cells t):=by
  intro v x h c;rw [c];exact ⟨_,_,_,rfl,by simp only [VRs];exact ⟨x,[],rfl,h,rfl⟩,qx _⟩
 cases v with
 | ag l=>
  simp only [VR] at h;obtain ⟨a,rfl,h⟩:=h;exact ⟨a,t,(0,0),rfl,h,qx _⟩
 | ai k n l=>
  simp only [VR] at h;obtain ⟨b,rfl⟩:=h;exact ⟨t,(0,0),rfl,b,qx _⟩
 | _=>
  simp only [Kq];refine one h ?_;simp only [VR] at h
  first
   | (rcases h with ⟨_,_,rfl⟩ | ⟨_,_,rfl⟩<;>rfl)
   | (rcases h with ⟨_,_,_,_,_,_,rfl⟩ | ⟨_,_,_,rfl⟩<;>rfl)
   | (subst h;rfl)
   | (obtain ⟨a,h,_⟩:=h;obtain ⟨_,_,_,e⟩:=wI _ a;rw [h,e];rfl)
   | (obtain ⟨_,rfl,_⟩:=h;rfl)
   | (obtain ⟨_,_,rfl⟩:=h;rfl)
   | (obtain ⟨_,_,_,_,_,rfl⟩:=h;rfl)
   | exact h.1
theorem uX (k:IntKind) (l:List Int):∀(n j:Nat),rc k l n j=(List.range n).map λi=>V.i k (l.getD (j+i) 0)
 | 0,_=>rfl
 | n+1,j=>by
  simp only [rc,uX k l n (j+1),List.range_succ_eq_map,fC,ur,cf];congr 1;apply List.map_congr_left;intro i _;simp [gh,nB 1 i]
theorem Ac (k:IntKind) {l:List Int} {n:Nat} (h:l.length=n):rc k l n 0=l.map (V.i k):=by
 rw [uX];apply AZ;intro i;by_cases hi:i<n
 ·simp [hi,h▸hi,List.getD]
 ·simp [hi,fU (Nat.le_of_not_lt (h▸hi))]
theorem lq {ι:Inj} {v:V} {x:Value} (h:VR ι v x):VRs ι (cellsOf v) x.cells.toList:=by
 have one:∀{v:V} {x:Value},VR ι v x->x.cells=#[x]->VRs ι [v] x.cells.toList:=by
  intro v x h c;rw [c];simp only [VRs];exact ⟨x,[],rfl,h,rfl⟩
 cases v with
 | ag l=>
  simp only [VR] at h;obtain ⟨a,rfl,h⟩:=h;exact h
 | ai k n l=>
  simp only [VR] at h;obtain ⟨b,rfl⟩:=h;simp only [cellsOf,Ac k b,Value.cells];exact VRs.ints k l
 | _=>
  simp only [cellsOf];refine one h ?_;simp only [VR] at h
  first
   | (rcases h with ⟨_,_,rfl⟩ | ⟨_,_,rfl⟩<;>rfl)
   | (rcases h with ⟨_,_,_,_,_,_,rfl⟩ | ⟨_,_,_,rfl⟩<;>rfl)
   | (subst h;rfl)
   | (obtain ⟨a,h,_⟩:=h;obtain ⟨_,_,_,e⟩:=wI _ a;rw [h,e];rfl)
   | (obtain ⟨_,rfl,_⟩:=h;rfl)
   | (obtain ⟨_,_,rfl⟩:=h;rfl)
   | (obtain ⟨_,_,_,_,_,rfl⟩:=h;rfl)
   | exact h.1
theorem bh {ι:Inj} {T:List (Nat×Option V)} {a:Act} (d:TR ι T a.tmps) {x:Operand} {v:V} (h:opd T x=some v):VR ι v (a.eval x):=by
 cases x with
 | tmp t=>
  simp only [opd] at h;split at h
  ·rename_i u e;simp only [aq] at h;subst h;obtain ⟨y,j,b⟩:=d t u e;simpa [Act.eval,oy,j] using b
  ·cases h
 | const c=>exact DK ι h
 | func f=>
  simp only [opd] at h;split at h
  ·rename_i i;simp only [aq] at h;subst h;simp only [VR,Act.eval];exact ⟨#[],(CY i _).symm,by simp [VRs]⟩
  ·cases h
 | global g=>simp [opd] at h
theorem vM {ι:Inj} {T:List (Nat×Option V)} {a:Act} (c:TR ι T a.tmps):∀{b:List Operand} {l:List V},opds (opd T) b=some l->VRs ι l (b.map a.eval)
 | [],_,h=>by simp only [opds,aq] at h;subst h;simp [VRs]
 | x::b,l,h=>by
  simp only [opds] at h;split at h
  ·rename_i v e;split at h
   ·rename_i m d;simp only [aq] at h;subst h;simp only [fC,VRs];exact ⟨_,_,rfl,bh c e,vM c d⟩
   ·cases h
  ·cases h
theorem AV {ι:Inj} {v:V} {x:Value} (h:VR ι v x) (b:oneV v=true):x.oneCell'=true:=by
 cases v<;>simp only [oneV,bq] at b<;>simp only [VR] at h<;>first
  | (rcases h with ⟨_,_,rfl⟩ | ⟨_,_,rfl⟩<;>rfl)
  | (rcases h with ⟨_,_,_,_,_,_,rfl⟩ | ⟨_,_,_,rfl⟩<;>rfl)
  | (subst h;rfl)
  | (obtain ⟨a,h,_⟩:=h;obtain ⟨_,_,_,e⟩:=wI _ a;rw [h,e];rfl)
  | (obtain ⟨_,rfl,_⟩:=h;rfl)
  | (obtain ⟨_,_,rfl⟩:=h;rfl)
  | (obtain ⟨_,_,_,_,_,rfl⟩:=h;rfl)
  | exact h.2
theorem oY {ι:Inj} {H:List (Nat×Blk)} {nb b:Nat} {w:World} (d:WR ι H nb w) {l:List V} (i:look H b=some (.cells l)):
  ∃r a e fr,ι b=some (some r)/\w.heap[r.r]?=some (.cells a e fr)/\VRs ι l a.toList/\NF fr a.size:=by
 obtain ⟨r,o,h,f,a,e,fr,rfl,g,c⟩:=(d.blk b _ i (by simp)).real (by simp);exact ⟨r,a,e,fr,h,f,g,c⟩
theorem tq {ι:Inj} {H:List (Nat×Blk)} {nb b:Nat} {w:World} (c:WR ι H nb w) {k:IntKind} {n:Nat} {l:List Int} (h:look H b=some (.ints k n l)):
  ∃r e fr,ι b=some (some r)/\w.heap[r.r]?=some (.cells (l.map (Value.int k)).toArray e fr)/\l.length=n/\NF fr n:=by
 obtain ⟨r,o,g,d,e,fr,rfl,f,a⟩:=(c.blk b _ h (by simp)).real (by simp);exact ⟨r,e,fr,g,d,f,a⟩
theorem ip {ι:Inj} {H:List (Nat×Blk)} {nb b:Nat} {w:World} (g:WR ι H nb w) {t:List Lf} {l:List (den t)} (h:look H b=some (.rows t l)):
  (∃r a e fr,ι b=some (some r)/\w.heap[r.r]?=some (.cells a e fr)/\l.length=r.n/\r.n<=r.k/\r.o+r.k*t.length<=a.size/\(a.toList.drop r.o).take (l.length*t.length)=l.flatMap (vals t)/\(r.fz=true\/NF fr a.size))\/
  (ι b=some none/\l=[]):=by
 rcases g.blk b _ h (by simp) with ⟨r,o,f,c,a,e,fr,rfl,d⟩ | ⟨f,i,c⟩
 ·exact .inl ⟨r,a,e,fr,f,c,d⟩
 ·injection c with d h4;subst d;exact .inr ⟨f,eq_of_heq h4⟩
theorem lT {t:List Lf}:∀(l:List (den t)),(l.flatMap (vals t)).length=l.length*t.length
 | []=>by simp
 | x::l=>by simp [oc,i6,lT l,fV,nB]
theorem Jt {t:List Lf}:∀(l:List (den t)) (j:Nat) (x:den t),l[j]?=some x->((l.flatMap (vals t)).drop (j*t.length)).take t.length=vals t x
 | [],j,x,h=>by simp at h
 | y::l,0,x,h=>by
  simp only [kD,aq] at h;subst h;simp only [xz,cP,oc];rw [rZ (by rw [i6];exact aU _),hZ (by rw [i6];exact aU _)]
 | y::l,j+1,x,h=>by
  simp only [Dy] at h;simp only [oc];rw [show (j+1)*t.length=(vals t y).length+j*t.length by rw [i6,fV];omega,Ej,iD (by omega)];simp only [BM,ek];exact Jt l j x h
theorem NA {t:List Lf} {l:List (den t)} {e:Array Value} {o:Nat} (h:(e.toList.drop o).take (l.length*t.length)=l.flatMap (vals t)) {j:Nat} {x:den t} (b:l[j]?=some x):
  (e.toList.drop (o+j*t.length)).take t.length=vals t x/\j*t.length+t.length<=l.length*t.length:=by
 have d:j<l.length:=by
  rcases aF j l.length with a | a
  ·exact a
  ·rw [fU a] at b;cases b
 have c:j*t.length+t.length<=l.length*t.length:=by
  have:=mc t.length (show j+1<=l.length from d);rw [fV] at this;omega
 refine ⟨?_,c⟩;have f:=Jt l j x b;rw [<-h,uB,yX,qo (by omega),iL] at f;exact f
theorem l7 {t:TypeId} {d:TypeDesc} (b:P.underlying t=some d) (f:bJ P t=false) {w:World} {r o:Nat} {a:Array Value} {e:TypeId} {fr:Nat×Nat}
  (h:w.heap[r]?=some (.cells a e fr)) {x:Value} (c:a[o]?=some x):(Instr.loadAt t (.pointer (some ⟨r,o,none⟩))).run P w=.ok x w:=by
 simp only [Instr.loadAt,Instr.sureAddr,loadVar,ax,aC,az,jk b,f,bq,aE,run_load,bz h,c]
theorem l6 {t:TypeId} {d:TypeDesc} (k:P.underlying t=some d) (m:bJ P t=true) {w:World} {r o:Nat} {a:Array Value} {e:TypeId} {fr:Nat×Nat}
  (h:w.heap[r]?=some (.cells a e fr)) (n:o+P.cellsOf t<=a.size):
  (Instr.loadAt t (.pointer (some ⟨r,o,none⟩))).run P w=.ok (.agg ((a.toList.drop o).take (P.cellsOf t)).toArray) w:=by
 obtain ⟨i,hi⟩:=lj k;have b:((a.toList.drop o).take (P.cellsOf t)).length=P.cellsOf t:=by simp;omega
 have hc:=uD (P:=P) w ⟨r,o,none⟩ ((a.toList.drop o).take (P.cellsOf t)) (λj v c=>by
  have f:j<P.cellsOf t:=by
   rcases aF j (P.cellsOf t) with g | g
   ·exact g
   ·rw [fU (by omega)] at c;cases c
  rw [oV f,lw] at c;have:(⟨r,o,none⟩:Addr).add j=⟨r,o+j,none⟩:=by
   unfold Addr.add;split
   ·rename_i l;subst l;rfl
   ·rfl
  rw [this,bz h];simpa using c)
 rw [b] at hc;simp only [Instr.loadAt,Instr.sureAddr,loadVar,ax,aC,az,jk k,m,aJ,fb hi,hc]
theorem wJ {α:Type} {ι:Inj} {H:List (Nat×Blk)} {nb b o:Nat} {w:World} (m:WR ι H nb w) {blk:Blk} (p:look H b=some blk) {t:TypeId} {d:TypeDesc}
  (l:P.underlying t=some d) (n:bJ P t=true) {c:V->Option α} {z:α} (h:ny P t blk o c=some z):
  ∃v x r,c v=some z/\ι b=some (some r)/\(Instr.loadAt t (.pointer (some ⟨r.r,o,none⟩))).run P w=.ok x w/\VR ι v x:=by
 unfold ny at h;split at h
 ·split at h
  ·rename_i i;have hle':=aH i;obtain ⟨r,k,e,fr,j,g,f,q⟩:=oY m p;have s:=f.length;have hsz':k.size=k.toList.length:=by simp
   exact ⟨_,_,r,h,j,l6 l n g (by omega),nH (by simpa using (f.drop o).take _)⟩
  ·cases h
 ·split at h
  ·rename_i a;simp only [aA,ia] at a;obtain ⟨rfl,u⟩:=a;obtain ⟨r,e,fr,j,g,f,q⟩:=tq m p;refine ⟨_,_,r,h,j,l6 l n g (by simp;omega),?_⟩;simp only [VR];refine ⟨f,?_⟩;rw [Value.agg.injEq];apply kY;simp only [cP];exact hZ (by simp;omega)
  ·cases h
 ·cases h
theorem QO {k:IntKind} {l:List V} {o:Nat} {n:Int} (h:(l.map (tI k))[o]?=some (some n)):l[o]?=some (.i k n):=by
 rw [nV] at h;cases a:l[o]? with
 | none=>rw [a] at h;cases h
 | some v=>
  rw [a] at h;simp only [ew,aq] at h;unfold tI at h;split at h
  ·split at h
   ·rename_i b;rw [jo b];simp only [aq] at h;rw [h]
   ·cases h
  ·cases h
theorem Ez {α:Type} {ι:Inj} {H:List (Nat×Blk)} {nb b o:Nat} {w:World} (s:WR ι H nb w) {blk:Blk} (j:look H b=some blk) {t:TypeId}
  {c:V->Option α} {z:α} (h:vX P t blk o c=some z):
  ∃v x r,c v=some z/\ι b=some (some r)/\(Instr.loadAt t (.pointer (some ⟨r.r,o,none⟩))).run P w=.ok x w/\VR ι v x:=by
 have one:∀{d:TypeDesc} {l:List V} {v:V},P.underlying t=some d->bJ P t=false->look H b=some (.cells l)->l[o]?=some v->c v=some z->
   ∃v x r,c v=some z/\ι b=some (some r)/\(Instr.loadAt t (.pointer (some ⟨r.r,o,none⟩))).run P w=.ok x w/\VR ι v x:=by
  intro d l v a i j B hc;obtain ⟨r,G,e,fr,g,f,y,A⟩:=oY s j;obtain ⟨x,F,u⟩:=y.get B;exact ⟨v,x,r,hc,g,l7 a i f (by simpa using F),u⟩
 unfold vX at h;split at h
 ·rename_i K a;exact wJ s j a (by simp [bJ,a]) h
 ·rename_i n e a;exact wJ s j a (by simp [bJ,a]) h
 ·rename_i k a;have i:bJ P t=false:=by simp [bJ,a]
  split at h
  ·split at h
   ·rename_i E p;obtain ⟨n,g,f⟩:=av h;exact one a i j (by rw [qT p];simp [g]) f
   ·obtain ⟨q,g,f⟩:=av h;obtain ⟨n,rfl,f⟩:=av f;exact one a i j (QO g) f
  ·rename_i k' n l;obtain ⟨m,g,f⟩:=av h;obtain ⟨r,e,fr,C,D,I,J⟩:=tq s j;exact ⟨_,.int k' m,r,f,C,l7 a i D (by simp [g]),by simp [VR]⟩
  ·cases h
 ·rename_i a;have i:bJ P t=false:=by simp [bJ,a]
  split at h
  ·split at h
   ·rename_i E p;obtain ⟨n,g,f⟩:=av h;exact one a i j (by rw [qO p];simp [g]) f
   ·obtain ⟨v,g,f⟩:=av h;exact one a i j g f
  ·cases h
 ·rename_i d g f y A a;have i:bJ P t=false:=by
   simp only [bJ,a];cases d<;>simp_all
  split at h
  ·obtain ⟨v,g,f⟩:=av h;exact one a i j g f
  ·cases h
 ·cases h
theorem La {α:Type} {ι:Inj} {w:World} {r o base:Nat} {m:Array Value} {e:TypeId} {fr:Nat×Nat} {l:List V} (D:w.heap[r]?=some (.cells m e fr))
  (C:VRs ι l ((m.toList.drop base).take l.length)) (B:base+l.length<=m.size) {t:TypeId} {c:V->Option α} {z:α} (h:vX P t (.cells l) o c=some z):
  ∃v x,c v=some z/\(Instr.loadAt t (.pointer (some ⟨r,base+o,none⟩))).run P w=.ok x w/\VR ι v x:=by
 have one:∀{d:TypeDesc} {v:V},P.underlying t=some d->bJ P t=false->l[o]?=some v->c v=some z->
   ∃v x,c v=some z/\(Instr.loadAt t (.pointer (some ⟨r,base+o,none⟩))).run P w=.ok x w/\VR ι v x:=by
  intro d v a f p hc;obtain ⟨x,E,u⟩:=C.get p;have A:o<l.length:=by
   rcases aF o l.length with s | s
   ·exact s
   ·rw [fU s] at p;cases p
  rw [oV A,lw] at E;exact ⟨v,x,hc,l7 a f D (by simpa using E),u⟩
 have j:∀{d:TypeDesc},P.underlying t=some d->bJ P t=true->ny P t (.cells l) o c=some z->
   ∃v x,c v=some z/\(Instr.loadAt t (.pointer (some ⟨r,base+o,none⟩))).run P w=.ok x w/\VR ι v x:=by
  intro d a f h;simp only [ny] at h;split at h
  ·rename_i y;have hle':=aH y;refine ⟨_,_,h,l6 a f D (by omega),nH ?_⟩;have:=(C.drop o).take (P.cellsOf t);rw [uB,iL,yX,qo (by omega)] at this;simpa using this
  ·cases h
 unfold vX at h;split at h
 ·rename_i G a;exact j a (by simp [bJ,a]) h
 ·rename_i n e a;exact j a (by simp [bJ,a]) h
 ·rename_i k a;have f:bJ P t=false:=by simp [bJ,a]
  simp only at h;split at h
  ·rename_i F i;obtain ⟨n,g,b⟩:=av h;exact one a f (by rw [qT i];simp [g]) b
  ·obtain ⟨q,g,b⟩:=av h;obtain ⟨n,rfl,b⟩:=av b;exact one a f (QO g) b
 ·rename_i a;have f:bJ P t=false:=by simp [bJ,a]
  simp only at h;split at h
  ·rename_i F i;obtain ⟨n,g,b⟩:=av h;exact one a f (by rw [qO i];simp [g]) b
  ·obtain ⟨v,g,b⟩:=av h;exact one a f g b
 ·rename_i d g b I H a;have f:bJ P t=false:=by
   simp only [bJ,a];cases d<;>simp_all
  simp only at h;obtain ⟨v,g,b⟩:=av h;exact one a f g b
 ·cases h
theorem Lf.inV_ok:∀{a:Lf} {v:V} {x:a.den},a.inV v=some x->v=a.toV x
 | .i k,v,x,h=>by
  cases v<;>simp only [Lf.inV] at h<;>try cases h
  split at h
  ·rename_i C;simp only [aq] at h;subst h;rw [jo C];rfl
  ·cases h
 | .bo,v,x,h=>by cases v<;>simp only [Lf.inV] at h<;>cases h;rfl
 | .s,v,x,h=>by cases v<;>simp only [Lf.inV] at h<;>cases h;rfl
theorem tH:∀{t:List Lf} {l:List V} {x:den t},vK t l=some x->l=cells t x
 | [],[],_,_=>rfl
 | [],_::_,_,h=>by simp [vK] at h
 | [a],[],_,h=>by simp [vK] at h
 | [a],[v],x,h=>by
  simp only [vK] at h;rw [Lf.inV_ok h];rfl
 | [a],_::_::_,_,h=>by simp [vK] at h
 | a::b::t,[],_,h=>by simp [vK] at h
 | a::b::t,v::vs,x,h=>by
  simp only [vK] at h;split at h
  ·rename_i y d;split at h
   ·rename_i e c;simp only [aq] at h;subst h;rw [Lf.inV_ok d,tH c];rfl
   ·cases h
  ·cases h
theorem Bc {t:List Lf}:∀{n:Nat} {l:List V} {m:List (den t)},Aa t t.length n l=some m->l.length=n*t.length->m.length=n/\l=m.flatMap (cells t)
 | 0,l,m,h,a=>by
  simp only [Aa,aq] at h;subst h;exact ⟨rfl,by simpa using a⟩
 | n+1,l,m,h,a=>by
  simp only [Aa] at h;split at h
  ·rename_i x c;split at h
   ·rename_i m' d;simp only [aq] at h;subst h;rw [fV] at a;obtain ⟨e,b⟩:=Bc d (by rw [cZ];omega);refine ⟨by simp [e],?_⟩;rw [oc,<-tH c,<-b,oi]
   ·cases h
  ·cases h
theorem Dv (ι:Inj) {t:List Lf}:∀(m:List (den t)) (a:List Value),VRs ι (m.flatMap (cells t)) a->a=m.flatMap (vals t)
 | [],a,h=>by simpa [VRs] using h
 | x::m,a,h=>by
  rw [oc] at h ⊢;have c:=h.take t.length;have b:=h.drop t.length;rw [rZ (by rw [jx];exact aU _),hZ (by rw [jx];exact aU _)] at c;rw [Ej,iD (by rw [jx];exact aU _),jx] at b;simp only [Nat.sub_self,cP,ek] at b;rw [<-(kA ι t x _).1 c,<-Dv ι m _ b,oi]
end Go.Abs
