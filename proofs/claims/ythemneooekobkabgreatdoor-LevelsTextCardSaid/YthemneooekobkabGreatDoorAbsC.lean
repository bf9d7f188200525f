
/- What the abstract effect of an operation says of the model's own operation: the parts of it.
   Conditions: none; generic over the program. -/
import Derived.Test.YthemneooekobkabGreatDoorAbsB
import Derived.Laws.Entries
import Derived.Laws.Cells
set_option linter.unusedSimpArgs false
set_option linter.unusedVariables false
namespace Go.Abs
variable {P:Program}
theorem nc {t:TypeId} {d:TypeDesc} (h:P.underlying t=some d):∃i,P.info? t=some i:=by
 unfold Program.underlying at h;cases hi:P.info? t with
 | none=>simp [hi] at h
 | some i=>exact ⟨i,rfl⟩
theorem cf {t:TypeId} (h:Nat.blt 0 (P.cellsOf t)=true):∃i,P.info? t=some i:=by
 unfold Program.cellsOf at h;cases hi:P.info? t with
 | none=>simp [hi] at h
 | some i=>exact ⟨i,rfl⟩
theorem gv {t:TypeId} {i:TypeInfo} (h:P.info? t=some i) (w:World):(sizeOf t).run P w=.ok (P.cellsOf t) w:=by
 simp [sizeOf,typeInfo,h,Program.cellsOf]
theorem kJ {t:TypeId} {d:TypeDesc} (h:P.underlying t=some d) (w:World):(isAgg t).run P w=.ok (bY P t) w:=by
 unfold isAgg bY;rw [h];simp only [aw,be h,az];cases d<;>rfl
theorem Dc (ι:Inj) {x:Value} {v:V} (h:HH x=some v):VR ι v x/\x.cells=#[x]/\oneV v=true:=by
 unfold HH at h;split at h<;>simp_all [Value.cells]
 all_goals (subst h;simp [VR,oneV,Value.cells,Value.oneCell'])
theorem Aa (ι:Inj):∀{a:List Value} {l:List V},wI a=some l->VRs ι l a
 | [],_,h=>by simp only [wI,au] at h;subst h;simp [VRs]
 | x::a,l,h=>by
  simp only [wI] at h;split at h
  ·rename_i v c;split at h
   ·rename_i m b;simp only [au] at h;subst h;simp only [VRs];exact ⟨x,a,rfl,(Dc ι c).1,Aa ι b⟩
   ·cases h
  ·cases h
theorem Is (ι:Inj) {x:Value} {v:V} (h:OC x=some v):VR ι v x:=by
 unfold OC at h;split at h
 ·split at h
  ·rename_i a;simp only [au] at h;subst h;simp only [VR];exact ⟨_,rfl,Aa ι a⟩
  ·cases h
 ·exact (Dc ι h).1
theorem ud {k:IntKind}:∀{l:List V} {b:List Int},zq k l=some b->l=b.map (V.i k)
 | [],_,h=>by simp only [zq,au] at h;subst h;rfl
 | v::l,b,h=>by
  unfold zq at h;split at h<;>rename_i a
  ·cases a
  ·injection a with h1 h2;subst h1 h2;split at h
   ·rename_i c;split at h
    ·rename_i m d;simp only [au] at h;subst h;rw [ud d,li c];rfl
    ·cases h
   ·cases h
  ·cases h
theorem uj:∀{l:List V} {b:List (aa)},zn l=some b->l=b.map V.s
 | [],_,h=>by simp only [zn,au] at h;subst h;rfl
 | v::l,b,h=>by
  unfold zn at h;split at h<;>rename_i a
  ·cases a
  ·injection a with h1 h2;subst h1 h2;split at h
   ·rename_i m c;simp only [au] at h;subst h;rw [uj c];rfl
   ·cases h
  ·cases h
theorem VRs.of_ints {ι:Inj} {k:IntKind}:∀{C:List Int} {E:List Value},VRs ι (C.map (V.i k)) E->E=C.map (Value.int k)
 | [],_,h=>by simpa [VRs] using h
 | x::C,E,h=>by
  simp only [gf,VRs,VR] at h;obtain ⟨y,G,rfl,rfl,F⟩:=h;simp [VRs.of_ints F]
theorem qw {ι:Inj} {t:TypeId} {l:List V} {a:Array Value} (h:VRs ι l a.toList):VR ι (Eh P t l) (.agg a):=by
 unfold Eh;split
 ·split
  ·rename_i hx;rw [ud hx] at h;simp only [VR,jN];have:=VRs.of_ints h;rw [Value.agg.injEq];apply lG;simpa using this
  ·simp only [VR];exact ⟨a,rfl,h⟩
 ·simp only [VR];exact ⟨a,rfl,h⟩
theorem Tn {ι:Inj} {t:TypeId} {v:V} {x:Value} (h:VR ι v x):VR ι (norm P t v) x:=by
 cases v<;>simp only [norm]<;>try exact h
 simp only [VR] at h;obtain ⟨a,rfl,h⟩:=h;exact qw h
theorem tg (n:Nat):NF (0,0) n:=by
 intro j _ h;simp at h
theorem HD {ι:Inj} {q:Rf} {v:V} {x:Value} (h:VR ι v x) (t:TypeId):BR ι q (Qd v) (.cells x.cells t):=by
 have one:∀{v:V} {x:Value},VR ι v x->x.cells=#[x]->BR ι q (.cells [v]) (.cells x.cells t):=by
  intro v x h hx;rw [hx];exact ⟨_,_,_,rfl,by simp only [VRs];exact ⟨x,[],rfl,h,rfl⟩,tg _⟩
 cases v with
 | ag l=>
  simp only [VR] at h;obtain ⟨a,rfl,h⟩:=h;exact ⟨a,t,(0,0),rfl,h,tg _⟩
 | ai k n l=>
  simp only [VR] at h;obtain ⟨b,rfl⟩:=h;exact ⟨t,(0,0),rfl,b,tg _⟩
 | _=>
  simp only [Qd];refine one h ?_;simp only [VR] at h
  first
   | (rcases h with ⟨_,_,rfl⟩ | ⟨_,_,rfl⟩<;>rfl)
   | (rcases h with ⟨_,_,_,_,_,_,rfl⟩ | ⟨_,_,_,rfl⟩<;>rfl)
   | (subst h;rfl)
   | (obtain ⟨a,h,_⟩:=h;obtain ⟨_,_,_,e⟩:=zg _ a;rw [h,e];rfl)
   | (obtain ⟨_,rfl,_⟩:=h;rfl)
   | (obtain ⟨_,_,rfl⟩:=h;rfl)
   | (obtain ⟨_,_,_,_,_,rfl⟩:=h;rfl)
   | exact h.1
theorem xf (k:IntKind) (l:List Int):∀(n j:Nat),tZ k l n j=(List.range n).map λi=>V.i k (l.getD (j+i) 0)
 | 0,_=>rfl
 | n+1,j=>by
  simp only [tZ,xf k l n (j+1),List.range_succ_eq_map,gf,tn,cP];congr 1;apply List.map_congr_left;intro i _;simp [iP,qY 1 i]
theorem Eo (k:IntKind) {l:List Int} {n:Nat} (h:l.length=n):tZ k l n 0=l.map (V.i k):=by
 rw [xf];apply DZ;intro i;by_cases hi:i<n
 ·simp [hi,h▸hi,List.getD]
 ·simp [hi,g9 (Nat.le_of_not_lt (h▸hi))]
theorem nJ {ι:Inj} {v:V} {x:Value} (h:VR ι v x):VRs ι (cellsOf v) x.cells.toList:=by
 have one:∀{v:V} {x:Value},VR ι v x->x.cells=#[x]->VRs ι [v] x.cells.toList:=by
  intro v x h hx;rw [hx];simp only [VRs];exact ⟨x,[],rfl,h,rfl⟩
 cases v with
 | ag l=>
  simp only [VR] at h;obtain ⟨a,rfl,h⟩:=h;exact h
 | ai k n l=>
  simp only [VR] at h;obtain ⟨b,rfl⟩:=h;simp only [cellsOf,Eo k b,Value.cells];exact VRs.ints k l
 | _=>
  simp only [cellsOf];refine one h ?_;simp only [VR] at h
  first
   | (rcases h with ⟨_,_,rfl⟩ | ⟨_,_,rfl⟩<;>rfl)
   | (rcases h with ⟨_,_,_,_,_,_,rfl⟩ | ⟨_,_,_,rfl⟩<;>rfl)
   | (subst h;rfl)
   | (obtain ⟨a,h,_⟩:=h;obtain ⟨_,_,_,e⟩:=zg _ a;rw [h,e];rfl)
   | (obtain ⟨_,rfl,_⟩:=h;rfl)
   | (obtain ⟨_,_,rfl⟩:=h;rfl)
   | (obtain ⟨_,_,_,_,_,rfl⟩:=h;rfl)
   | exact h.1
theorem bA {ι:Inj} {T:List (Nat×Option V)} {a:Act} (j:TR ι T a.tmps) {x:Operand} {v:V} (h:opd T x=some v):VR ι v (a.eval x):=by
 cases x with
 | tmp t=>
  simp only [opd] at h;split at h
  ·rename_i u d;simp only [au] at h;subst h;obtain ⟨y,b,e⟩:=j t u d;simpa [Act.eval,qW,b] using e
  ·cases h
 | const c=>exact Is ι h
 | func f=>
  simp only [opd] at h;split at h
  ·rename_i i;simp only [au] at h;subst h;simp only [VR,Act.eval];exact ⟨#[],(FG i _).symm,by simp [VRs]⟩
  ·cases h
 | global g=>simp [opd] at h
theorem yH {ι:Inj} {T:List (Nat×Option V)} {a:Act} (c:TR ι T a.tmps):∀{b:List Operand} {l:List V},opds (opd T) b=some l->VRs ι l (b.map a.eval)
 | [],_,h=>by simp only [opds,au] at h;subst h;simp [VRs]
 | x::b,l,h=>by
  simp only [opds] at h;split at h
  ·rename_i v e;split at h
   ·rename_i m d;simp only [au] at h;subst h;simp only [gf,VRs];exact ⟨_,_,rfl,bA c e,yH c d⟩
   ·cases h
  ·cases h
theorem Dz {ι:Inj} {v:V} {x:Value} (h:VR ι v x) (a:oneV v=true):x.oneCell'=true:=by
 cases v<;>simp only [oneV,bv] at a<;>simp only [VR] at h<;>first
  | (rcases h with ⟨_,_,rfl⟩ | ⟨_,_,rfl⟩<;>rfl)
  | (rcases h with ⟨_,_,_,_,_,_,rfl⟩ | ⟨_,_,_,rfl⟩<;>rfl)
  | (subst h;rfl)
  | (obtain ⟨b,h,_⟩:=h;obtain ⟨_,_,_,e⟩:=zg _ b;rw [h,e];rfl)
  | (obtain ⟨_,rfl,_⟩:=h;rfl)
  | (obtain ⟨_,_,rfl⟩:=h;rfl)
  | (obtain ⟨_,_,_,_,_,rfl⟩:=h;rfl)
  | exact h.2
theorem rG {ι:Inj} {H:List (Nat×Blk)} {nb b:Nat} {w:World} (c:WR ι H nb w) {l:List V} (i:look H b=some (.cells l)):
  ∃r a e fr,ι b=some (some r)/\w.heap[r.r]?=some (.cells a e fr)/\VRs ι l a.toList/\NF fr a.size:=by
 obtain ⟨r,o,f,h,a,e,fr,rfl,d,g⟩:=(c.blk b _ i (by simp)).real (by simp);exact ⟨r,a,e,fr,f,h,d,g⟩
theorem wj {ι:Inj} {H:List (Nat×Blk)} {nb b:Nat} {w:World} (a:WR ι H nb w) {k:IntKind} {n:Nat} {l:List Int} (h:look H b=some (.ints k n l)):
  ∃r e fr,ι b=some (some r)/\w.heap[r.r]?=some (.cells (l.map (Value.int k)).toArray e fr)/\l.length=n/\NF fr n:=by
 obtain ⟨r,o,d,g,e,fr,rfl,c,f⟩:=(a.blk b _ h (by simp)).real (by simp);exact ⟨r,e,fr,d,g,c,f⟩
theorem jE {ι:Inj} {H:List (Nat×Blk)} {nb b:Nat} {w:World} (g:WR ι H nb w) {t:List Lf} {l:List (den t)} (h:look H b=some (.rows t l)):
  (∃r a e fr,ι b=some (some r)/\w.heap[r.r]?=some (.cells a e fr)/\l.length=r.n/\r.n<=r.k/\r.o+r.k*t.length<=a.size/\(a.toList.drop r.o).take (l.length*t.length)=l.flatMap (vals t)/\(r.fz=true\/NF fr a.size))\/
  (ι b=some none/\l=[]):=by
 rcases g.blk b _ h (by simp) with ⟨r,o,d,f,a,e,fr,rfl,c⟩ | ⟨d,i,f⟩
 ·exact .inl ⟨r,a,e,fr,d,f,c⟩
 ·injection f with c h4;subst c;exact .inr ⟨d,eq_of_heq h4⟩
theorem oz {t:List Lf}:∀(l:List (den t)),(l.flatMap (vals t)).length=l.length*t.length
 | []=>by simp
 | x::l=>by simp [oC,kh,oz l,gY,qY]
theorem J2 {t:List Lf}:∀(l:List (den t)) (j:Nat) (x:den t),l[j]?=some x->((l.flatMap (vals t)).drop (j*t.length)).take t.length=vals t x
 | [],j,x,h=>by simp at h
 | y::l,0,x,h=>by
  simp only [mL,au] at h;subst h;simp only [Cd,bV,oC];rw [vq (by rw [kh];exact aY _),jd (by rw [kh];exact aY _)]
 | y::l,j+1,x,h=>by
  simp only [HK] at h;simp only [oC];rw [show (j+1)*t.length=(vals t y).length+j*t.length by rw [kh,gY];omega,ID,js (by omega)];simp only [F4,dX];exact J2 l j x h
theorem Rq {t:List Lf} {l:List (den t)} {e:Array Value} {o:Nat} (h:(e.toList.drop o).take (l.length*t.length)=l.flatMap (vals t)) {j:Nat} {x:den t} (a:l[j]?=some x):
  (e.toList.drop (o+j*t.length)).take t.length=vals t x/\j*t.length+t.length<=l.length*t.length:=by
 have d:j<l.length:=by
  rcases aH j l.length with b | b
  ·exact b
  ·rw [g9 b] at a;cases a
 have c:j*t.length+t.length<=l.length*t.length:=by
  have:=oS t.length (show j+1<=l.length from d);rw [gY] at this;omega
 refine ⟨?_,c⟩;have f:=J2 l j x a;rw [<-h,xH,Bm,sY (by omega),jw] at f;exact f
theorem oJ {t:TypeId} {d:TypeDesc} (b:P.underlying t=some d) (c:bY P t=false) {w:World} {r o:Nat} {a:Array Value} {e:TypeId} {fr:Nat×Nat}
  (h:w.heap[r]?=some (.cells a e fr)) {x:Value} (hx:a[o]?=some x):(Instr.loadAt t (.pointer (some ⟨r,o,none⟩))).run P w=.ok x w:=by
 simp only [Instr.loadAt,Instr.sureAddr,loadVar,aw,aD,az,kJ b,c,bv,aB,run_load,bw h,hx]
theorem oN {t:TypeId} {d:TypeDesc} (k:P.underlying t=some d) (l:bY P t=true) {w:World} {r o:Nat} {b:Array Value} {e:TypeId} {fr:Nat×Nat}
  (h:w.heap[r]?=some (.cells b e fr)) (n:o+P.cellsOf t<=b.size):
  (Instr.loadAt t (.pointer (some ⟨r,o,none⟩))).run P w=.ok (.agg ((b.toList.drop o).take (P.cellsOf t)).toArray) w:=by
 obtain ⟨i,hi⟩:=nc k;have a:((b.toList.drop o).take (P.cellsOf t)).length=P.cellsOf t:=by simp;omega
 have hc:=xy (P:=P) w ⟨r,o,none⟩ ((b.toList.drop o).take (P.cellsOf t)) (λj v c=>by
  have f:j<P.cellsOf t:=by
   rcases aH j (P.cellsOf t) with g | g
   ·exact g
   ·rw [g9 (by omega)] at c;cases c
  rw [qA f,na] at c;have:(⟨r,o,none⟩:Addr).add j=⟨r,o+j,none⟩:=by
   unfold Addr.add;split
   ·rename_i m;subst m;rfl
   ·rfl
  rw [this,bw h];simpa using c)
 rw [a] at hc;simp only [Instr.loadAt,Instr.sureAddr,loadVar,aw,aD,az,kJ k,l,aL,gv hi,hc]
theorem zK {α:Type} {ι:Inj} {H:List (Nat×Blk)} {nb b o:Nat} {w:World} (k:WR ι H nb w) {blk:Blk} (p:look H b=some blk) {t:TypeId} {d:TypeDesc}
  (m:P.underlying t=some d) (n:bY P t=true) {c:V->Option α} {z:α} (h:qx P t blk o c=some z):
  ∃v x r,c v=some z/\ι b=some (some r)/\(Instr.loadAt t (.pointer (some ⟨r.r,o,none⟩))).run P w=.ok x w/\VR ι v x:=by
 unfold qx at h;split at h
 ·split at h
  ·rename_i j;have hle':=aJ j;obtain ⟨r,l,e,fr,g,i,f,q⟩:=rG k p;have s:=f.length;have hsz':l.size=l.toList.length:=by simp
   exact ⟨_,_,r,h,g,oN m n i (by omega),qw (by simpa using (f.drop o).take _)⟩
  ·cases h
 ·split at h
  ·rename_i a;simp only [aA,jn] at a;obtain ⟨rfl,u⟩:=a;obtain ⟨r,e,fr,g,i,f,q⟩:=wj k p;refine ⟨_,_,r,h,g,oN m n i (by simp;omega),?_⟩;simp only [VR];refine ⟨f,?_⟩;rw [Value.agg.injEq];apply lG;simp only [bV];exact jd (by simp;omega)
  ·cases h
 ·cases h
theorem V9 {k:IntKind} {l:List V} {o:Nat} {n:Int} (h:(l.map (tI k))[o]?=some (some n)):l[o]?=some (.i k n):=by
 rw [m6] at h;cases a:l[o]? with
 | none=>rw [a] at h;cases h
 | some v=>
  rw [a] at h;simp only [fb,au] at h;unfold tI at h;split at h
  ·split at h
   ·rename_i b;rw [li b];simp only [au] at h;rw [h]
   ·cases h
  ·cases h
theorem Ht {α:Type} {ι:Inj} {H:List (Nat×Blk)} {nb b o:Nat} {w:World} (s:WR ι H nb w) {blk:Blk} (i:look H b=some blk) {t:TypeId}
  {c:V->Option α} {z:α} (h:yQ P t blk o c=some z):
  ∃v x r,c v=some z/\ι b=some (some r)/\(Instr.loadAt t (.pointer (some ⟨r.r,o,none⟩))).run P w=.ok x w/\VR ι v x:=by
 have one:∀{d:TypeDesc} {l:List V} {v:V},P.underlying t=some d->bY P t=false->look H b=some (.cells l)->l[o]?=some v->c v=some z->
   ∃v x r,c v=some z/\ι b=some (some r)/\(Instr.loadAt t (.pointer (some ⟨r.r,o,none⟩))).run P w=.ok x w/\VR ι v x:=by
  intro d l v a j i A hc;obtain ⟨r,I,e,fr,g,f,y,C⟩:=rG s i;obtain ⟨x,hx,u⟩:=y.get A;exact ⟨v,x,r,hc,g,oJ a j f (by simpa using hx),u⟩
 unfold yQ at h;split at h
 ·rename_i J a;exact zK s i a (by simp [bY,a]) h
 ·rename_i n e a;exact zK s i a (by simp [bY,a]) h
 ·rename_i k a;have j:bY P t=false:=by simp [bY,a]
  split at h
  ·split at h
   ·rename_i D p;obtain ⟨n,g,f⟩:=av h;exact one a j i (by rw [ud p];simp [g]) f
   ·obtain ⟨q,g,f⟩:=av h;obtain ⟨n,rfl,f⟩:=av f;exact one a j i (V9 g) f
  ·rename_i k' n l;obtain ⟨m,g,f⟩:=av h;obtain ⟨r,e,fr,E,B,F,G⟩:=wj s i;exact ⟨_,.int k' m,r,f,E,oJ a j B (by simp [g]),by simp [VR]⟩
  ·cases h
 ·rename_i a;have j:bY P t=false:=by simp [bY,a]
  split at h
  ·split at h
   ·rename_i D p;obtain ⟨n,g,f⟩:=av h;exact one a j i (by rw [uj p];simp [g]) f
   ·obtain ⟨v,g,f⟩:=av h;exact one a j i g f
  ·cases h
 ·rename_i d g f y C a;have j:bY P t=false:=by
   simp only [bY,a];cases d<;>simp_all
  split at h
  ·obtain ⟨v,g,f⟩:=av h;exact one a j i g f
  ·cases h
 ·cases h
theorem QB {α:Type} {ι:Inj} {w:World} {r o base:Nat} {u:Array Value} {e:TypeId} {fr:Nat×Nat} {l:List V} (C:w.heap[r]?=some (.cells u e fr))
  (D:VRs ι l ((u.toList.drop base).take l.length)) (B:base+l.length<=u.size) {t:TypeId} {c:V->Option α} {z:α} (h:yQ P t (.cells l) o c=some z):
  ∃v x,c v=some z/\(Instr.loadAt t (.pointer (some ⟨r,base+o,none⟩))).run P w=.ok x w/\VR ι v x:=by
 have one:∀{d:TypeDesc} {v:V},P.underlying t=some d->bY P t=false->l[o]?=some v->c v=some z->
   ∃v x,c v=some z/\(Instr.loadAt t (.pointer (some ⟨r,base+o,none⟩))).run P w=.ok x w/\VR ι v x:=by
  intro d v a f s hc;obtain ⟨x,hx,m⟩:=D.get s;have A:o<l.length:=by
   rcases aH o l.length with p | p
   ·exact p
   ·rw [g9 p] at s;cases s
  rw [qA A,na] at hx;exact ⟨v,x,hc,oJ a f C (by simpa using hx),m⟩
 have j:∀{d:TypeDesc},P.underlying t=some d->bY P t=true->qx P t (.cells l) o c=some z->
   ∃v x,c v=some z/\(Instr.loadAt t (.pointer (some ⟨r,base+o,none⟩))).run P w=.ok x w/\VR ι v x:=by
  intro d a f h;simp only [qx] at h;split at h
  ·rename_i y;have hle':=aJ y;refine ⟨_,_,h,oN a f C (by omega),qw ?_⟩;have:=(D.drop o).take (P.cellsOf t);rw [xH,jw,Bm,sY (by omega)] at this;simpa using this
  ·cases h
 unfold yQ at h;split at h
 ·rename_i H a;exact j a (by simp [bY,a]) h
 ·rename_i n e a;exact j a (by simp [bY,a]) h
 ·rename_i k a;have f:bY P t=false:=by simp [bY,a]
  simp only at h;split at h
  ·rename_i E i;obtain ⟨n,g,b⟩:=av h;exact one a f (by rw [ud i];simp [g]) b
  ·obtain ⟨q,g,b⟩:=av h;obtain ⟨n,rfl,b⟩:=av b;exact one a f (V9 g) b
 ·rename_i a;have f:bY P t=false:=by simp [bY,a]
  simp only at h;split at h
  ·rename_i E i;obtain ⟨n,g,b⟩:=av h;exact one a f (by rw [uj i];simp [g]) b
  ·obtain ⟨v,g,b⟩:=av h;exact one a f g b
 ·rename_i d g b F G a;have f:bY P t=false:=by
   simp only [bY,a];cases d<;>simp_all
  simp only at h;obtain ⟨v,g,b⟩:=av h;exact one a f g b
 ·cases h
theorem Lf.inV_ok:∀{a:Lf} {v:V} {x:a.den},a.inV v=some x->v=a.toV x
 | .i k,v,x,h=>by
  cases v<;>simp only [Lf.inV] at h<;>try cases h
  split at h
  ·rename_i C;simp only [au] at h;subst h;rw [li C];rfl
  ·cases h
 | .bo,v,x,h=>by cases v<;>simp only [Lf.inV] at h<;>cases h;rfl
 | .s,v,x,h=>by cases v<;>simp only [Lf.inV] at h<;>cases h;rfl
theorem vZ:∀{t:List Lf} {l:List V} {x:den t},xx t l=some x->l=cells t x
 | [],[],_,_=>rfl
 | [],_::_,_,h=>by simp [xx] at h
 | [a],[],_,h=>by simp [xx] at h
 | [a],[v],x,h=>by
  simp only [xx] at h;rw [Lf.inV_ok h];rfl
 | [a],_::_::_,_,h=>by simp [xx] at h
 | a::b::t,[],_,h=>by simp [xx] at h
 | a::b::t,v::vs,x,h=>by
  simp only [xx] at h;split at h
  ·rename_i y hy;split at h
   ·rename_i d c;simp only [au] at h;subst h;rw [Lf.inV_ok hy,vZ c];rfl
   ·cases h
  ·cases h
theorem CY {t:List Lf}:∀{n:Nat} {l:List V} {m:List (den t)},Ci t t.length n l=some m->l.length=n*t.length->m.length=n/\l=m.flatMap (cells t)
 | 0,l,m,h,a=>by
  simp only [Ci,au] at h;subst h;exact ⟨rfl,by simpa using a⟩
 | n+1,l,m,h,a=>by
  simp only [Ci] at h;split at h
  ·rename_i x hx;split at h
   ·rename_i m' c;simp only [au] at h;subst h;rw [gY] at a;obtain ⟨d,b⟩:=CY c (by rw [bN];omega);refine ⟨by simp [d],?_⟩;rw [oC,<-vZ hx,<-b,ve]
   ·cases h
  ·cases h
theorem G8 (ι:Inj) {t:List Lf}:∀(m:List (den t)) (a:List Value),VRs ι (m.flatMap (cells t)) a->a=m.flatMap (vals t)
 | [],a,h=>by simpa [VRs] using h
 | x::m,a,h=>by
  rw [oC] at h ⊢;have c:=h.take t.length;have b:=h.drop t.length;rw [vq (by rw [lE];exact aY _),jd (by rw [lE];exact aY _)] at c;rw [ID,js (by rw [lE];exact aY _),lE] at b;simp only [B6,bV,dX] at b;rw [<-(nZ ι t x _).1 c,<-G8 ι m _ b,ve]
end Go.Abs
