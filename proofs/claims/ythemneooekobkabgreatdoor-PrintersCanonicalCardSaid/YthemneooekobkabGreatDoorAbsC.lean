
/- What the abstract effect of an operation says of the model's own operation: the parts of it.
   Conditions: none; generic over the program. -/
import Derived.Test.YthemneooekobkabGreatDoorAbsB
import Derived.Laws.Entries
import Derived.Laws.Cells
set_option linter.unusedSimpArgs false
set_option linter.unusedVariables false
namespace Go.Abs
variable {P:Program}
theorem nv {t:TypeId} {d:TypeDesc} (h:P.underlying t=some d):∃i,P.info? t=some i:=by
 unfold Program.underlying at h;cases hi:P.info? t with
 | none=>simp [hi] at h
 | some i=>exact ⟨i,rfl⟩
theorem ca {t:TypeId} (h:Nat.blt 0 (P.cellsOf t)=true):∃i,P.info? t=some i:=by
 unfold Program.cellsOf at h;cases hi:P.info? t with
 | none=>simp [hi] at h
 | some i=>exact ⟨i,rfl⟩
theorem gq {t:TypeId} {i:TypeInfo} (h:P.info? t=some i) (w:World):(sizeOf t).run P w=.ok (P.cellsOf t) w:=by
 simp [sizeOf,typeInfo,h,Program.cellsOf]
theorem kP {t:TypeId} {d:TypeDesc} (h:P.underlying t=some d) (w:World):(isAgg t).run P w=.ok (bV P t) w:=by
 unfold isAgg bV;rw [h];simp only [aw,aV h,ay];cases d<;>rfl
theorem Cc (ι:Inj) {x:Value} {v:V} (h:Gz x=some v):VR ι v x/\x.cells=#[x]/\oneV v=true:=by
 unfold Gz at h;split at h<;>simp_all [Value.cells]
 all_goals (subst h;simp [VR,oneV,Value.cells,Value.oneCell'])
theorem zp (ι:Inj):∀{a:List Value} {l:List V},xG a=some l->VRs ι l a
 | [],_,h=>by simp only [xG,au] at h;subst h;simp [VRs]
 | x::a,l,h=>by
  simp only [xG] at h;split at h
  ·rename_i v b;split at h
   ·rename_i m c;simp only [au] at h;subst h;simp only [VRs];exact ⟨x,a,rfl,(Cc ι b).1,zp ι c⟩
   ·cases h
  ·cases h
theorem Ib (ι:Inj) {x:Value} {v:V} (h:P6 x=some v):VR ι v x:=by
 unfold P6 at h;split at h
 ·split at h
  ·rename_i a;simp only [au] at h;subst h;simp only [VR];exact ⟨_,rfl,zp ι a⟩
  ·cases h
 ·exact (Cc ι h).1
theorem us {k:IntKind}:∀{l:List V} {b:List Int},zQ k l=some b->l=b.map (V.i k)
 | [],_,h=>by simp only [zQ,au] at h;subst h;rfl
 | v::l,b,h=>by
  unfold zQ at h;split at h<;>rename_i a
  ·cases a
  ·injection a with h1 h2;subst h1 h2;split at h
   ·rename_i d;split at h
    ·rename_i m c;simp only [au] at h;subst h;rw [us c,lu d];rfl
    ·cases h
   ·cases h
  ·cases h
theorem ui:∀{l:List V} {b:List (aa)},zr l=some b->l=b.map V.s
 | [],_,h=>by simp only [zr,au] at h;subst h;rfl
 | v::l,b,h=>by
  unfold zr at h;split at h<;>rename_i a
  ·cases a
  ·injection a with h1 h2;subst h1 h2;split at h
   ·rename_i m c;simp only [au] at h;subst h;rw [ui c];rfl
   ·cases h
  ·cases h
theorem VRs.of_ints {ι:Inj} {k:IntKind}:∀{C:List Int} {E:List Value},VRs ι (C.map (V.i k)) E->E=C.map (Value.int k)
 | [],_,h=>by simpa [VRs] using h
 | x::C,E,h=>by
  simp only [ga,VRs,VR] at h;obtain ⟨y,G,rfl,rfl,F⟩:=h;simp [VRs.of_ints F]
theorem qw {ι:Inj} {t:TypeId} {l:List V} {a:Array Value} (h:VRs ι l a.toList):VR ι (Ez P t l) (.agg a):=by
 unfold Ez;split
 ·split
  ·rename_i hx;rw [us hx] at h;simp only [VR,jT];have:=VRs.of_ints h;rw [Value.agg.injEq];apply lG;simpa using this
  ·simp only [VR];exact ⟨a,rfl,h⟩
 ·simp only [VR];exact ⟨a,rfl,h⟩
theorem Uc {ι:Inj} {t:TypeId} {v:V} {x:Value} (h:VR ι v x):VR ι (norm P t v) x:=by
 cases v<;>simp only [norm]<;>try exact h
 simp only [VR] at h;obtain ⟨a,rfl,h⟩:=h;exact qw h
theorem tH (n:Nat):NF (0,0) n:=by
 intro j _ h;simp at h
theorem Hh {ι:Inj} {q:Rf} {v:V} {x:Value} (h:VR ι v x) (t:TypeId):BR ι q (O6 v) (.cells x.cells t):=by
 have one:∀{v:V} {x:Value},VR ι v x->x.cells=#[x]->BR ι q (.cells [v]) (.cells x.cells t):=by
  intro v x h hx;rw [hx];exact ⟨_,_,_,rfl,by simp only [VRs];exact ⟨x,[],rfl,h,rfl⟩,tH _⟩
 cases v with
 | ag l=>
  simp only [VR] at h;obtain ⟨a,rfl,h⟩:=h;exact ⟨a,t,(0,0),rfl,h,tH _⟩
 | ai k n l=>
  simp only [VR] at h;obtain ⟨b,rfl⟩:=h;exact ⟨t,(0,0),rfl,b,tH _⟩
 | _=>
  simp only [O6];refine one h ?_;simp only [VR] at h
  first
   | (rcases h with ⟨_,_,rfl⟩ | ⟨_,_,rfl⟩<;>rfl)
   | (rcases h with ⟨_,_,_,_,_,_,rfl⟩ | ⟨_,_,_,rfl⟩<;>rfl)
   | (subst h;rfl)
   | (obtain ⟨a,h,_⟩:=h;obtain ⟨_,_,_,e⟩:=zK _ a;rw [h,e];rfl)
   | (obtain ⟨_,rfl,_⟩:=h;rfl)
   | (obtain ⟨_,_,rfl⟩:=h;rfl)
   | (obtain ⟨_,_,_,_,_,rfl⟩:=h;rfl)
   | exact h.1
theorem xP (k:IntKind) (l:List Int):∀(n j:Nat),uz k l n j=(List.range n).map λi=>V.i k (l.getD (j+i) 0)
 | 0,_=>rfl
 | n+1,j=>by
  simp only [uz,xP k l n (j+1),List.range_succ_eq_map,ga,tz,cS];congr 1;apply List.map_congr_left;intro i _;simp [iO,qL 1 i]
theorem Ei (k:IntKind) {l:List Int} {n:Nat} (h:l.length=n):uz k l n 0=l.map (V.i k):=by
 rw [xP];apply Ee;intro i;by_cases hi:i<n
 ·simp [hi,h▸hi,List.getD]
 ·simp [hi,ii (Nat.le_of_not_lt (h▸hi))]
theorem nI {ι:Inj} {v:V} {x:Value} (h:VR ι v x):VRs ι (cellsOf v) x.cells.toList:=by
 have one:∀{v:V} {x:Value},VR ι v x->x.cells=#[x]->VRs ι [v] x.cells.toList:=by
  intro v x h hx;rw [hx];simp only [VRs];exact ⟨x,[],rfl,h,rfl⟩
 cases v with
 | ag l=>
  simp only [VR] at h;obtain ⟨a,rfl,h⟩:=h;exact h
 | ai k n l=>
  simp only [VR] at h;obtain ⟨b,rfl⟩:=h;simp only [cellsOf,Ei k b,Value.cells];exact VRs.ints k l
 | _=>
  simp only [cellsOf];refine one h ?_;simp only [VR] at h
  first
   | (rcases h with ⟨_,_,rfl⟩ | ⟨_,_,rfl⟩<;>rfl)
   | (rcases h with ⟨_,_,_,_,_,_,rfl⟩ | ⟨_,_,_,rfl⟩<;>rfl)
   | (subst h;rfl)
   | (obtain ⟨a,h,_⟩:=h;obtain ⟨_,_,_,e⟩:=zK _ a;rw [h,e];rfl)
   | (obtain ⟨_,rfl,_⟩:=h;rfl)
   | (obtain ⟨_,_,rfl⟩:=h;rfl)
   | (obtain ⟨_,_,_,_,_,rfl⟩:=h;rfl)
   | exact h.1
theorem bv {ι:Inj} {T:List (Nat×Option V)} {a:Act} (b:TR ι T a.tmps) {x:Operand} {v:V} (h:opd T x=some v):VR ι v (a.eval x):=by
 cases x with
 | tmp t=>
  simp only [opd] at h;split at h
  ·rename_i u e;simp only [au] at h;subst h;obtain ⟨y,j,i⟩:=b t u e;simpa [Act.eval,ri,j] using i
  ·cases h
 | const c=>exact Ib ι h
 | func f=>
  simp only [opd] at h;split at h
  ·rename_i d;simp only [au] at h;subst h;simp only [VR,Act.eval];exact ⟨#[],(FI d _).symm,by simp [VRs]⟩
  ·cases h
 | global g=>simp [opd] at h
theorem wF {ι:Inj} {T:List (Nat×Option V)} {a:Act} (c:TR ι T a.tmps):∀{b:List Operand} {l:List V},opds (opd T) b=some l->VRs ι l (b.map a.eval)
 | [],_,h=>by simp only [opds,au] at h;subst h;simp [VRs]
 | x::b,l,h=>by
  simp only [opds] at h;split at h
  ·rename_i v d;split at h
   ·rename_i m e;simp only [au] at h;subst h;simp only [ga,VRs];exact ⟨_,_,rfl,bv c d,wF c e⟩
   ·cases h
  ·cases h
theorem DZ {ι:Inj} {v:V} {x:Value} (h:VR ι v x) (a:oneV v=true):x.oneCell'=true:=by
 cases v<;>simp only [oneV,br] at a<;>simp only [VR] at h<;>first
  | (rcases h with ⟨_,_,rfl⟩ | ⟨_,_,rfl⟩<;>rfl)
  | (rcases h with ⟨_,_,_,_,_,_,rfl⟩ | ⟨_,_,_,rfl⟩<;>rfl)
  | (subst h;rfl)
  | (obtain ⟨b,h,_⟩:=h;obtain ⟨_,_,_,e⟩:=zK _ b;rw [h,e];rfl)
  | (obtain ⟨_,rfl,_⟩:=h;rfl)
  | (obtain ⟨_,_,rfl⟩:=h;rfl)
  | (obtain ⟨_,_,_,_,_,rfl⟩:=h;rfl)
  | exact h.2
theorem rk {ι:Inj} {H:List (Nat×Blk)} {nb b:Nat} {w:World} (g:WR ι H nb w) {l:List V} (h:look H b=some (.cells l)):
  ∃r a e fr,ι b=some (some r)/\w.heap[r.r]?=some (.cells a e fr)/\VRs ι l a.toList/\NF fr a.size:=by
 obtain ⟨r,o,f,c,a,e,fr,rfl,d,i⟩:=(g.blk b _ h (by simp)).real (by simp);exact ⟨r,a,e,fr,f,c,d,i⟩
theorem vQ {ι:Inj} {H:List (Nat×Blk)} {nb b:Nat} {w:World} (f:WR ι H nb w) {k:IntKind} {n:Nat} {l:List Int} (g:look H b=some (.ints k n l)):
  ∃r e fr,ι b=some (some r)/\w.heap[r.r]?=some (.cells (l.map (Value.int k)).toArray e fr)/\l.length=n/\NF fr n:=by
 obtain ⟨r,o,d,a,e,fr,rfl,c,h⟩:=(f.blk b _ g (by simp)).real (by simp);exact ⟨r,e,fr,d,a,c,h⟩
theorem jH {ι:Inj} {H:List (Nat×Blk)} {nb b:Nat} {w:World} (g:WR ι H nb w) {t:List Lf} {l:List (den t)} (h:look H b=some (.rows t l)):
  (∃r a e fr,ι b=some (some r)/\w.heap[r.r]?=some (.cells a e fr)/\l.length=r.n/\r.n<=r.k/\r.o+r.k*t.length<=a.size/\(a.toList.drop r.o).take (l.length*t.length)=l.flatMap (vals t)/\(r.fz=true\/NF fr a.size))\/
  (ι b=some none/\l=[]):=by
 rcases g.blk b _ h (by simp) with ⟨r,o,f,c,a,e,fr,rfl,d⟩ | ⟨f,i,c⟩
 ·exact .inl ⟨r,a,e,fr,f,c,d⟩
 ·injection c with d h4;subst d;exact .inr ⟨f,eq_of_heq h4⟩
theorem oy {t:List Lf}:∀(l:List (den t)),(l.flatMap (vals t)).length=l.length*t.length
 | []=>by simp
 | x::l=>by simp [qx,kj,oy l,hO,qL]
theorem K6 {t:List Lf}:∀(l:List (den t)) (j:Nat) (x:den t),l[j]?=some x->((l.flatMap (vals t)).drop (j*t.length)).take t.length=vals t x
 | [],j,x,h=>by simp at h
 | y::l,0,x,h=>by
  simp only [my,au] at h;subst h;simp only [Ag,cf,qx];rw [vq (by rw [kj];exact aW _),ji (by rw [kj];exact aW _)]
 | y::l,j+1,x,h=>by
  simp only [G1] at h;simp only [qx];rw [show (j+1)*t.length=(vals t y).length+j*t.length by rw [kj,hO];omega,Hy,jr (by omega)];simp only [FD,dW];exact K6 l j x h
theorem QS {t:List Lf} {l:List (den t)} {e:Array Value} {o:Nat} (h:(e.toList.drop o).take (l.length*t.length)=l.flatMap (vals t)) {j:Nat} {x:den t} (a:l[j]?=some x):
  (e.toList.drop (o+j*t.length)).take t.length=vals t x/\j*t.length+t.length<=l.length*t.length:=by
 have b:j<l.length:=by
  rcases aG j l.length with d | d
  ·exact d
  ·rw [ii d] at a;cases a
 have c:j*t.length+t.length<=l.length*t.length:=by
  have:=oz t.length (show j+1<=l.length from b);rw [hO] at this;omega
 refine ⟨?_,c⟩;have f:=K6 l j x a;rw [<-h,xw,AZ,tg (by omega),jp] at f;exact f
theorem oJ {t:TypeId} {d:TypeDesc} (b:P.underlying t=some d) (c:bV P t=false) {w:World} {r o:Nat} {a:Array Value} {e:TypeId} {fr:Nat×Nat}
  (h:w.heap[r]?=some (.cells a e fr)) {x:Value} (hx:a[o]?=some x):(Instr.loadAt t (.pointer (some ⟨r,o,none⟩))).run P w=.ok x w:=by
 simp only [Instr.loadAt,Instr.sureAddr,loadVar,aw,aD,ay,kP b,c,br,aB,run_load,bu h,hx]
theorem oN {t:TypeId} {d:TypeDesc} (g:P.underlying t=some d) (l:bV P t=true) {w:World} {r o:Nat} {b:Array Value} {e:TypeId} {fr:Nat×Nat}
  (h:w.heap[r]?=some (.cells b e fr)) (n:o+P.cellsOf t<=b.size):
  (Instr.loadAt t (.pointer (some ⟨r,o,none⟩))).run P w=.ok (.agg ((b.toList.drop o).take (P.cellsOf t)).toArray) w:=by
 obtain ⟨i,hi⟩:=nv g;have a:((b.toList.drop o).take (P.cellsOf t)).length=P.cellsOf t:=by simp;omega
 have hc:=yv (P:=P) w ⟨r,o,none⟩ ((b.toList.drop o).take (P.cellsOf t)) (λj v c=>by
  have f:j<P.cellsOf t:=by
   rcases aG j (P.cellsOf t) with k | k
   ·exact k
   ·rw [ii (by omega)] at c;cases c
  rw [qC f,mZ] at c;have:(⟨r,o,none⟩:Addr).add j=⟨r,o+j,none⟩:=by
   unfold Addr.add;split
   ·rename_i m;subst m;rfl
   ·rfl
  rw [this,bu h];simpa using c)
 rw [a] at hc;simp only [Instr.loadAt,Instr.sureAddr,loadVar,aw,aD,ay,kP g,l,aJ,gq hi,hc]
theorem Ab {α:Type} {ι:Inj} {H:List (Nat×Blk)} {nb b o:Nat} {w:World} (n:WR ι H nb w) {blk:Blk} (m:look H b=some blk) {t:TypeId} {d:TypeDesc}
  (p:P.underlying t=some d) (l:bV P t=true) {c:V->Option α} {z:α} (h:qj P t blk o c=some z):
  ∃v x r,c v=some z/\ι b=some (some r)/\(Instr.loadAt t (.pointer (some ⟨r.r,o,none⟩))).run P w=.ok x w/\VR ι v x:=by
 unfold qj at h;split at h
 ·split at h
  ·rename_i i;have hle':=aI i;obtain ⟨r,k,e,fr,j,g,f,u⟩:=rk n m;have q:=f.length;have hsz':k.size=k.toList.length:=by simp
   exact ⟨_,_,r,h,j,oN p l g (by omega),qw (by simpa using (f.drop o).take _)⟩
  ·cases h
 ·split at h
  ·rename_i a;simp only [aA,ju] at a;obtain ⟨rfl,s⟩:=a;obtain ⟨r,e,fr,j,g,f,u⟩:=vQ n m;refine ⟨_,_,r,h,j,oN p l g (by simp;omega),?_⟩;simp only [VR];refine ⟨f,?_⟩;rw [Value.agg.injEq];apply lG;simp only [cf];exact ji (by simp;omega)
  ·cases h
 ·cases h
theorem V2 {k:IntKind} {l:List V} {o:Nat} {n:Int} (h:(l.map (tI k))[o]?=some (some n)):l[o]?=some (.i k n):=by
 rw [m8] at h;cases a:l[o]? with
 | none=>rw [a] at h;cases h
 | some v=>
  rw [a] at h;simp only [fc,au] at h;unfold tI at h;split at h
  ·split at h
   ·rename_i b;rw [lu b];simp only [au] at h;rw [h]
   ·cases h
  ·cases h
theorem HW {α:Type} {ι:Inj} {H:List (Nat×Blk)} {nb b o:Nat} {w:World} (s:WR ι H nb w) {blk:Blk} (j:look H b=some blk) {t:TypeId}
  {c:V->Option α} {z:α} (h:yZ P t blk o c=some z):
  ∃v x r,c v=some z/\ι b=some (some r)/\(Instr.loadAt t (.pointer (some ⟨r.r,o,none⟩))).run P w=.ok x w/\VR ι v x:=by
 have one:∀{d:TypeDesc} {l:List V} {v:V},P.underlying t=some d->bV P t=false->look H b=some (.cells l)->l[o]?=some v->c v=some z->
   ∃v x r,c v=some z/\ι b=some (some r)/\(Instr.loadAt t (.pointer (some ⟨r.r,o,none⟩))).run P w=.ok x w/\VR ι v x:=by
  intro d l v a i j A hc;obtain ⟨r,I,e,fr,g,f,y,C⟩:=rk s j;obtain ⟨x,hx,u⟩:=y.get A;exact ⟨v,x,r,hc,g,oJ a i f (by simpa using hx),u⟩
 unfold yZ at h;split at h
 ·rename_i F a;exact Ab s j a (by simp [bV,a]) h
 ·rename_i n e a;exact Ab s j a (by simp [bV,a]) h
 ·rename_i k a;have i:bV P t=false:=by simp [bV,a]
  split at h
  ·split at h
   ·rename_i B p;obtain ⟨n,g,f⟩:=av h;exact one a i j (by rw [us p];simp [g]) f
   ·obtain ⟨q,g,f⟩:=av h;obtain ⟨n,rfl,f⟩:=av f;exact one a i j (V2 g) f
  ·rename_i k' n l;obtain ⟨m,g,f⟩:=av h;obtain ⟨r,e,fr,E,D,J,G⟩:=vQ s j;exact ⟨_,.int k' m,r,f,E,oJ a i D (by simp [g]),by simp [VR]⟩
  ·cases h
 ·rename_i a;have i:bV P t=false:=by simp [bV,a]
  split at h
  ·split at h
   ·rename_i B p;obtain ⟨n,g,f⟩:=av h;exact one a i j (by rw [ui p];simp [g]) f
   ·obtain ⟨v,g,f⟩:=av h;exact one a i j g f
  ·cases h
 ·rename_i d g f y C a;have i:bV P t=false:=by
   simp only [bV,a];cases d<;>simp_all
  split at h
  ·obtain ⟨v,g,f⟩:=av h;exact one a i j g f
  ·cases h
 ·cases h
theorem Qk {α:Type} {ι:Inj} {w:World} {r o base:Nat} {u:Array Value} {e:TypeId} {fr:Nat×Nat} {l:List V} (D:w.heap[r]?=some (.cells u e fr))
  (B:VRs ι l ((u.toList.drop base).take l.length)) (C:base+l.length<=u.size) {t:TypeId} {c:V->Option α} {z:α} (h:yZ P t (.cells l) o c=some z):
  ∃v x,c v=some z/\(Instr.loadAt t (.pointer (some ⟨r,base+o,none⟩))).run P w=.ok x w/\VR ι v x:=by
 have one:∀{d:TypeDesc} {v:V},P.underlying t=some d->bV P t=false->l[o]?=some v->c v=some z->
   ∃v x,c v=some z/\(Instr.loadAt t (.pointer (some ⟨r,base+o,none⟩))).run P w=.ok x w/\VR ι v x:=by
  intro d v a f A hc;obtain ⟨x,hx,m⟩:=B.get A;have p:o<l.length:=by
   rcases aG o l.length with y | y
   ·exact y
   ·rw [ii y] at A;cases A
  rw [qC p,mZ] at hx;exact ⟨v,x,hc,oJ a f D (by simpa using hx),m⟩
 have j:∀{d:TypeDesc},P.underlying t=some d->bV P t=true->qj P t (.cells l) o c=some z->
   ∃v x,c v=some z/\(Instr.loadAt t (.pointer (some ⟨r,base+o,none⟩))).run P w=.ok x w/\VR ι v x:=by
  intro d a f h;simp only [qj] at h;split at h
  ·rename_i s;have hle':=aI s;refine ⟨_,_,h,oN a f D (by omega),qw ?_⟩;have:=(B.drop o).take (P.cellsOf t);rw [xw,jp,AZ,tg (by omega)] at this;simpa using this
  ·cases h
 unfold yZ at h;split at h
 ·rename_i G a;exact j a (by simp [bV,a]) h
 ·rename_i n e a;exact j a (by simp [bV,a]) h
 ·rename_i k a;have f:bV P t=false:=by simp [bV,a]
  simp only at h;split at h
  ·rename_i E i;obtain ⟨n,g,b⟩:=av h;exact one a f (by rw [us i];simp [g]) b
  ·obtain ⟨q,g,b⟩:=av h;obtain ⟨n,rfl,b⟩:=av b;exact one a f (V2 g) b
 ·rename_i a;have f:bV P t=false:=by simp [bV,a]
  simp only at h;split at h
  ·rename_i E i;obtain ⟨n,g,b⟩:=av h;exact one a f (by rw [ui i];simp [g]) b
  ·obtain ⟨v,g,b⟩:=av h;exact one a f g b
 ·rename_i d g b F H a;have f:bV P t=false:=by
   simp only [bV,a];cases d<;>simp_all
  simp only at h;obtain ⟨v,g,b⟩:=av h;exact one a f g b
 ·cases h
theorem Lf.inV_ok:∀{a:Lf} {v:V} {x:a.den},a.inV v=some x->v=a.toV x
 | .i k,v,x,h=>by
  cases v<;>simp only [Lf.inV] at h<;>try cases h
  split at h
  ·rename_i C;simp only [au] at h;subst h;rw [lu C];rfl
  ·cases h
 | .bo,v,x,h=>by cases v<;>simp only [Lf.inV] at h<;>cases h;rfl
 | .s,v,x,h=>by cases v<;>simp only [Lf.inV] at h<;>cases h;rfl
theorem wm:∀{t:List Lf} {l:List V} {x:den t},wz t l=some x->l=cells t x
 | [],[],_,_=>rfl
 | [],_::_,_,h=>by simp [wz] at h
 | [a],[],_,h=>by simp [wz] at h
 | [a],[v],x,h=>by
  simp only [wz] at h;rw [Lf.inV_ok h];rfl
 | [a],_::_::_,_,h=>by simp [wz] at h
 | a::b::t,[],_,h=>by simp [wz] at h
 | a::b::t,v::vs,x,h=>by
  simp only [wz] at h;split at h
  ·rename_i y hy;split at h
   ·rename_i d c;simp only [au] at h;subst h;rw [Lf.inV_ok hy,wm c];rfl
   ·cases h
  ·cases h
theorem Ey {t:List Lf}:∀{n:Nat} {l:List V} {m:List (den t)},Dq t t.length n l=some m->l.length=n*t.length->m.length=n/\l=m.flatMap (cells t)
 | 0,l,m,h,a=>by
  simp only [Dq,au] at h;subst h;exact ⟨rfl,by simpa using a⟩
 | n+1,l,m,h,a=>by
  simp only [Dq] at h;split at h
  ·rename_i x hx;split at h
   ·rename_i m' c;simp only [au] at h;subst h;rw [hO] at a;obtain ⟨d,b⟩:=Ey c (by rw [bL];omega);refine ⟨by simp [d],?_⟩;rw [qx,<-wm hx,<-b,uE]
   ·cases h
  ·cases h
theorem G7 (ι:Inj) {t:List Lf}:∀(m:List (den t)) (a:List Value),VRs ι (m.flatMap (cells t)) a->a=m.flatMap (vals t)
 | [],a,h=>by simpa [VRs] using h
 | x::m,a,h=>by
  rw [qx] at h ⊢;have c:=h.take t.length;have b:=h.drop t.length;rw [vq (by rw [k7];exact aW _),ji (by rw [k7];exact aW _)] at c;rw [Hy,jr (by rw [k7];exact aW _),k7] at b;simp only [BD,cf,dW] at b;rw [<-(nV ι t x _).1 c,<-G7 ι m _ b,uE]
end Go.Abs
