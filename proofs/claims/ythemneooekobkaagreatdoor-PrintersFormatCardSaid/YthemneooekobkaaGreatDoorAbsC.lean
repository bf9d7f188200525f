
/- What the abstract effect of an operation says of the model's own operation: the parts of it.
   Conditions: none; generic over the program. -/
import Derived.Test.YthemneooekobkaaGreatDoorAbsB
import Derived.Laws.Entries
import Derived.Laws.Cells
set_option linter.unusedSimpArgs false
set_option linter.unusedVariables false
namespace Go.Abs
variable {P:Program}
theorem nM {t:TypeId} {d:TypeDesc} (h:P.underlying t=some d):∃i,P.info? t=some i:=by
 unfold Program.underlying at h;cases hi:P.info? t with
 | none=>simp [hi] at h
 | some i=>exact ⟨i,rfl⟩
theorem cf {t:TypeId} (h:Nat.blt 0 (P.cellsOf t)=true):∃i,P.info? t=some i:=by
 unfold Program.cellsOf at h;cases hi:P.info? t with
 | none=>simp [hi] at h
 | some i=>exact ⟨i,rfl⟩
theorem gn {t:TypeId} {i:TypeInfo} (h:P.info? t=some i) (w:World):(sizeOf t).run P w=.ok (P.cellsOf t) w:=by
 simp [sizeOf,typeInfo,h,Program.cellsOf]
theorem kU {t:TypeId} {d:TypeDesc} (h:P.underlying t=some d) (w:World):(isAgg t).run P w=.ok (bZ P t) w:=by
 unfold isAgg bZ;rw [h];simp only [ay,aY h,aA];cases d<;>rfl
theorem FA (ι:Inj) {x:Value} {v:V} (h:Iy x=some v):VR ι v x/\x.cells=#[x]/\oneV v=true:=by
 unfold Iy at h;split at h<;>simp_all [Value.cells]
 all_goals (subst h;simp [VR,oneV,Value.cells,Value.oneCell'])
theorem AU (ι:Inj):∀{a:List Value} {l:List V},yH a=some l->VRs ι l a
 | [],_,h=>by simp only [yH,av] at h;subst h;simp [VRs]
 | x::a,l,h=>by
  simp only [yH] at h;split at h
  ·rename_i v b;split at h
   ·rename_i m c;simp only [av] at h;subst h;simp only [VRs];exact ⟨x,a,rfl,(FA ι b).1,AU ι c⟩
   ·cases h
  ·cases h
theorem IN (ι:Inj) {x:Value} {v:V} (h:QM x=some v):VR ι v x:=by
 unfold QM at h;split at h
 ·split at h
  ·rename_i a;simp only [av] at h;subst h;simp only [VR];exact ⟨_,rfl,AU ι a⟩
  ·cases h
 ·exact (FA ι h).1
theorem ux {k:IntKind}:∀{l:List V} {b:List Int},zY k l=some b->l=b.map (V.i k)
 | [],_,h=>by simp only [zY,av] at h;subst h;rfl
 | v::l,b,h=>by
  unfold zY at h;split at h<;>rename_i a
  ·cases a
  ·injection a with h1 h2;subst h1 h2;split at h
   ·rename_i d;split at h
    ·rename_i m c;simp only [av] at h;subst h;rw [ux c,lB d];rfl
    ·cases h
   ·cases h
  ·cases h
theorem vc:∀{l:List V} {b:List (aa)},zN l=some b->l=b.map V.s
 | [],_,h=>by simp only [zN,av] at h;subst h;rfl
 | v::l,b,h=>by
  unfold zN at h;split at h<;>rename_i a
  ·cases a
  ·injection a with h1 h2;subst h1 h2;split at h
   ·rename_i m c;simp only [av] at h;subst h;rw [vc c];rfl
   ·cases h
  ·cases h
theorem VRs.of_ints {ι:Inj} {k:IntKind}:∀{E:List Int} {C:List Value},VRs ι (E.map (V.i k)) C->C=E.map (Value.int k)
 | [],_,h=>by simpa [VRs] using h
 | x::E,C,h=>by
  simp only [ge,VRs,VR] at h;obtain ⟨y,G,rfl,rfl,F⟩:=h;simp [VRs.of_ints F]
theorem qQ {ι:Inj} {t:TypeId} {l:List V} {a:Array Value} (h:VRs ι l a.toList):VR ι (EF P t l) (.agg a):=by
 unfold EF;split
 ·split
  ·rename_i hx;rw [ux hx] at h;simp only [VR,kP];have:=VRs.of_ints h;rw [Value.agg.injEq];apply lP;simpa using this
  ·simp only [VR];exact ⟨a,rfl,h⟩
 ·simp only [VR];exact ⟨a,rfl,h⟩
theorem TT {ι:Inj} {t:TypeId} {v:V} {x:Value} (h:VR ι v x):VR ι (norm P t v) x:=by
 cases v<;>simp only [norm]<;>try exact h
 simp only [VR] at h;obtain ⟨a,rfl,h⟩:=h;exact qQ h
theorem tX (n:Nat):NF (0,0) n:=by
 intro j _ h;simp at h
theorem IZ {ι:Inj} {q:Rf} {v:V} {x:Value} (h:VR ι v x) (t:TypeId):BR ι q (Qn v) (.cells x.cells t):=by
 have one:∀{v:V} {x:Value},VR ι v x->x.cells=#[x]->BR ι q (.cells [v]) (.cells x.cells t):=by
  intro v x h hx;rw [hx];exact ⟨_,_,_,rfl,by simp only [VRs];exact ⟨x,[],rfl,h,rfl⟩,tX _⟩
 cases v with
 | ag l=>
  simp only [VR] at h;obtain ⟨a,rfl,h⟩:=h;exact ⟨a,t,(0,0),rfl,h,tX _⟩
 | ai k n l=>
  simp only [VR] at h;obtain ⟨b,rfl⟩:=h;exact ⟨t,(0,0),rfl,b,tX _⟩
 | _=>
  simp only [Qn];refine one h ?_;simp only [VR] at h
  first
   | (rcases h with ⟨_,_,rfl⟩ | ⟨_,_,rfl⟩<;>rfl)
   | (rcases h with ⟨_,_,_,_,_,_,rfl⟩ | ⟨_,_,_,rfl⟩<;>rfl)
   | (subst h;rfl)
   | (obtain ⟨a,h,_⟩:=h;obtain ⟨_,_,_,e⟩:=zL _ a;rw [h,e];rfl)
   | (obtain ⟨_,rfl,_⟩:=h;rfl)
   | (obtain ⟨_,_,rfl⟩:=h;rfl)
   | (obtain ⟨_,_,_,_,_,rfl⟩:=h;rfl)
   | exact h.1
theorem zp (k:IntKind) (l:List Int):∀(n j:Nat),uD k l n j=(List.range n).map λi=>V.i k (l.getD (j+i) 0)
 | 0,_=>rfl
 | n+1,j=>by
  simp only [uD,zp k l n (j+1),List.range_succ_eq_map,ge,ud,cM];congr 1;apply List.map_congr_left;intro i _;simp [gO,pw 1 i]
theorem Dt (k:IntKind) {l:List Int} {n:Nat} (h:l.length=n):uD k l n 0=l.map (V.i k):=by
 rw [zp];apply zP;intro i;by_cases hi:i<n
 ·simp [hi,h▸hi,List.getD]
 ·simp [hi,ga (Nat.le_of_not_lt (h▸hi))]
theorem nZ {ι:Inj} {v:V} {x:Value} (h:VR ι v x):VRs ι (cellsOf v) x.cells.toList:=by
 have one:∀{v:V} {x:Value},VR ι v x->x.cells=#[x]->VRs ι [v] x.cells.toList:=by
  intro v x h hx;rw [hx];simp only [VRs];exact ⟨x,[],rfl,h,rfl⟩
 cases v with
 | ag l=>
  simp only [VR] at h;obtain ⟨a,rfl,h⟩:=h;exact h
 | ai k n l=>
  simp only [VR] at h;obtain ⟨b,rfl⟩:=h;simp only [cellsOf,Dt k b,Value.cells];exact VRs.ints k l
 | _=>
  simp only [cellsOf];refine one h ?_;simp only [VR] at h
  first
   | (rcases h with ⟨_,_,rfl⟩ | ⟨_,_,rfl⟩<;>rfl)
   | (rcases h with ⟨_,_,_,_,_,_,rfl⟩ | ⟨_,_,_,rfl⟩<;>rfl)
   | (subst h;rfl)
   | (obtain ⟨a,h,_⟩:=h;obtain ⟨_,_,_,e⟩:=zL _ a;rw [h,e];rfl)
   | (obtain ⟨_,rfl,_⟩:=h;rfl)
   | (obtain ⟨_,_,rfl⟩:=h;rfl)
   | (obtain ⟨_,_,_,_,_,rfl⟩:=h;rfl)
   | exact h.1
theorem bu {ι:Inj} {T:List (Nat×Option V)} {a:Act} (e:TR ι T a.tmps) {x:Operand} {v:V} (h:opd T x=some v):VR ι v (a.eval x):=by
 cases x with
 | tmp t=>
  simp only [opd] at h;split at h
  ·rename_i u d;simp only [av] at h;subst h;obtain ⟨y,b,j⟩:=e t u d;simpa [Act.eval,rq,b] using j
  ·cases h
 | const c=>exact IN ι h
 | func f=>
  simp only [opd] at h;split at h
  ·rename_i i;simp only [av] at h;subst h;simp only [VR,Act.eval];exact ⟨#[],(FV i _).symm,by simp [VRs]⟩
  ·cases h
 | global g=>simp [opd] at h
theorem xG {ι:Inj} {T:List (Nat×Option V)} {a:Act} (c:TR ι T a.tmps):∀{b:List Operand} {l:List V},opds (opd T) b=some l->VRs ι l (b.map a.eval)
 | [],_,h=>by simp only [opds,av] at h;subst h;simp [VRs]
 | x::b,l,h=>by
  simp only [opds] at h;split at h
  ·rename_i v d;split at h
   ·rename_i m e;simp only [av] at h;subst h;simp only [ge,VRs];exact ⟨_,_,rfl,bu c d,xG c e⟩
   ·cases h
  ·cases h
theorem Du {ι:Inj} {v:V} {x:Value} (h:VR ι v x) (b:oneV v=true):x.oneCell'=true:=by
 cases v<;>simp only [oneV,bz] at b<;>simp only [VR] at h<;>first
  | (rcases h with ⟨_,_,rfl⟩ | ⟨_,_,rfl⟩<;>rfl)
  | (rcases h with ⟨_,_,_,_,_,_,rfl⟩ | ⟨_,_,_,rfl⟩<;>rfl)
  | (subst h;rfl)
  | (obtain ⟨a,h,_⟩:=h;obtain ⟨_,_,_,e⟩:=zL _ a;rw [h,e];rfl)
  | (obtain ⟨_,rfl,_⟩:=h;rfl)
  | (obtain ⟨_,_,rfl⟩:=h;rfl)
  | (obtain ⟨_,_,_,_,_,rfl⟩:=h;rfl)
  | exact h.2
theorem rB {ι:Inj} {H:List (Nat×Blk)} {nb b:Nat} {w:World} (g:WR ι H nb w) {l:List V} (i:look H b=some (.cells l)):
  ∃r a e fr,ι b=some (some r)/\w.heap[r.r]?=some (.cells a e fr)/\VRs ι l a.toList/\NF fr a.size:=by
 obtain ⟨r,o,d,f,a,e,fr,rfl,h,c⟩:=(g.blk b _ i (by simp)).real (by simp);exact ⟨r,a,e,fr,d,f,h,c⟩
theorem wN {ι:Inj} {H:List (Nat×Blk)} {nb b:Nat} {w:World} (f:WR ι H nb w) {k:IntKind} {n:Nat} {l:List Int} (h:look H b=some (.ints k n l)):
  ∃r e fr,ι b=some (some r)/\w.heap[r.r]?=some (.cells (l.map (Value.int k)).toArray e fr)/\l.length=n/\NF fr n:=by
 obtain ⟨r,o,c,d,e,fr,rfl,g,a⟩:=(f.blk b _ h (by simp)).real (by simp);exact ⟨r,e,fr,c,d,g,a⟩
theorem jQ {ι:Inj} {H:List (Nat×Blk)} {nb b:Nat} {w:World} (g:WR ι H nb w) {t:List Lf} {l:List (den t)} (h:look H b=some (.rows t l)):
  (∃r a e fr,ι b=some (some r)/\w.heap[r.r]?=some (.cells a e fr)/\l.length=r.n/\r.n<=r.k/\r.o+r.k*t.length<=a.size/\(a.toList.drop r.o).take (l.length*t.length)=l.flatMap (vals t)/\(r.fz=true\/NF fr a.size))\/
  (ι b=some none/\l=[]):=by
 rcases g.blk b _ h (by simp) with ⟨r,o,c,d,a,e,fr,rfl,f⟩ | ⟨c,i,d⟩
 ·exact .inl ⟨r,a,e,fr,c,d,f⟩
 ·injection d with f h4;subst f;exact .inr ⟨c,eq_of_heq h4⟩
theorem oY {t:List Lf}:∀(l:List (den t)),(l.flatMap (vals t)).length=l.length*t.length
 | []=>by simp
 | x::l=>by simp [pV,g9,oY l,iq,pw]
theorem MK {t:List Lf}:∀(l:List (den t)) (j:Nat) (x:den t),l[j]?=some x->((l.flatMap (vals t)).drop (j*t.length)).take t.length=vals t x
 | [],j,x,h=>by simp at h
 | y::l,0,x,h=>by
  simp only [lR,av] at h;subst h;simp only [CC,cU,pV];rw [vp (by rw [g9];exact aX _),js (by rw [g9];exact aX _)]
 | y::l,j+1,x,h=>by
  simp only [HF] at h;simp only [pV];rw [show (j+1)*t.length=(vals t y).length+j*t.length by rw [g9,iq];omega,iO9,jt (by omega)];simp only [Gg,dS];exact MK l j x h
theorem SV {t:List Lf} {l:List (den t)} {e:Array Value} {o:Nat} (h:(e.toList.drop o).take (l.length*t.length)=l.flatMap (vals t)) {j:Nat} {x:den t} (a:l[j]?=some x):
  (e.toList.drop (o+j*t.length)).take t.length=vals t x/\j*t.length+t.length<=l.length*t.length:=by
 have d:j<l.length:=by
  rcases aH j l.length with c | c
  ·exact c
  ·rw [ga c] at a;cases a
 have b:j*t.length+t.length<=l.length*t.length:=by
  have:=o8 t.length (show j+1<=l.length from d);rw [iq] at this;omega
 refine ⟨?_,b⟩;have f:=MK l j x a;rw [<-h,xZ,A9,tL (by omega),jv] at f;exact f
theorem pA {t:TypeId} {d:TypeDesc} (c:P.underlying t=some d) (b:bZ P t=false) {w:World} {r o:Nat} {a:Array Value} {e:TypeId} {fr:Nat×Nat}
  (h:w.heap[r]?=some (.cells a e fr)) {x:Value} (hx:a[o]?=some x):(Instr.loadAt t (.pointer (some ⟨r,o,none⟩))).run P w=.ok x w:=by
 simp only [Instr.loadAt,Instr.sureAddr,loadVar,ay,aF,aA,kU c,b,bz,aE,run_load,bi h,hx]
theorem pf {t:TypeId} {d:TypeDesc} (g:P.underlying t=some d) (l:bZ P t=true) {w:World} {r o:Nat} {a:Array Value} {e:TypeId} {fr:Nat×Nat}
  (h:w.heap[r]?=some (.cells a e fr)) (n:o+P.cellsOf t<=a.size):
  (Instr.loadAt t (.pointer (some ⟨r,o,none⟩))).run P w=.ok (.agg ((a.toList.drop o).take (P.cellsOf t)).toArray) w:=by
 obtain ⟨i,hi⟩:=nM g;have b:((a.toList.drop o).take (P.cellsOf t)).length=P.cellsOf t:=by simp;omega
 have hc:=yq (P:=P) w ⟨r,o,none⟩ ((a.toList.drop o).take (P.cellsOf t)) (λj v c=>by
  have f:j<P.cellsOf t:=by
   rcases aH j (P.cellsOf t) with k | k
   ·exact k
   ·rw [ga (by omega)] at c;cases c
  rw [qf f,lV] at c;have:(⟨r,o,none⟩:Addr).add j=⟨r,o+j,none⟩:=by
   unfold Addr.add;split
   ·rename_i m;subst m;rfl
   ·rfl
  rw [this,bi h];simpa using c)
 rw [b] at hc;simp only [Instr.loadAt,Instr.sureAddr,loadVar,ay,aF,aA,kU g,l,aM,gn hi,hc]
theorem AW {α:Type} {ι:Inj} {H:List (Nat×Blk)} {nb b o:Nat} {w:World} (n:WR ι H nb w) {blk:Blk} (p:look H b=some blk) {t:TypeId} {d:TypeDesc}
  (m:P.underlying t=some d) (k:bZ P t=true) {c:V->Option α} {z:α} (h:qs P t blk o c=some z):
  ∃v x r,c v=some z/\ι b=some (some r)/\(Instr.loadAt t (.pointer (some ⟨r.r,o,none⟩))).run P w=.ok x w/\VR ι v x:=by
 unfold qs at h;split at h
 ·split at h
  ·rename_i j;have hle':=aL j;obtain ⟨r,l,e,fr,g,i,f,q⟩:=rB n p;have s:=f.length;have hsz':l.size=l.toList.length:=by simp
   exact ⟨_,_,r,h,g,pf m k i (by omega),qQ (by simpa using (f.drop o).take _)⟩
  ·cases h
 ·split at h
  ·rename_i a;simp only [az,jG] at a;obtain ⟨rfl,u⟩:=a;obtain ⟨r,e,fr,g,i,f,q⟩:=wN n p;refine ⟨_,_,r,h,g,pf m k i (by simp;omega),?_⟩;simp only [VR];refine ⟨f,?_⟩;rw [Value.agg.injEq];apply lP;simp only [cU];exact js (by simp;omega)
  ·cases h
 ·cases h
theorem X0 {k:IntKind} {l:List V} {o:Nat} {n:Int} (h:(l.map (tI k))[o]?=some (some n)):l[o]?=some (.i k n):=by
 rw [nr] at h;cases a:l[o]? with
 | none=>rw [a] at h;cases h
 | some v=>
  rw [a] at h;simp only [fg,av] at h;unfold tI at h;split at h
  ·split at h
   ·rename_i b;rw [lB b];simp only [av] at h;rw [h]
   ·cases h
  ·cases h
theorem Jc {α:Type} {ι:Inj} {H:List (Nat×Blk)} {nb b o:Nat} {w:World} (s:WR ι H nb w) {blk:Blk} (j:look H b=some blk) {t:TypeId}
  {c:V->Option α} {z:α} (h:zF P t blk o c=some z):
  ∃v x r,c v=some z/\ι b=some (some r)/\(Instr.loadAt t (.pointer (some ⟨r.r,o,none⟩))).run P w=.ok x w/\VR ι v x:=by
 have one:∀{d:TypeDesc} {l:List V} {v:V},P.underlying t=some d->bZ P t=false->look H b=some (.cells l)->l[o]?=some v->c v=some z->
   ∃v x r,c v=some z/\ι b=some (some r)/\(Instr.loadAt t (.pointer (some ⟨r.r,o,none⟩))).run P w=.ok x w/\VR ι v x:=by
  intro d l v a i j B hc;obtain ⟨r,F,e,fr,g,f,y,A⟩:=rB s j;obtain ⟨x,hx,u⟩:=y.get B;exact ⟨v,x,r,hc,g,pA a i f (by simpa using hx),u⟩
 unfold zF at h;split at h
 ·rename_i G a;exact AW s j a (by simp [bZ,a]) h
 ·rename_i n e a;exact AW s j a (by simp [bZ,a]) h
 ·rename_i k a;have i:bZ P t=false:=by simp [bZ,a]
  split at h
  ·split at h
   ·rename_i D p;obtain ⟨n,g,f⟩:=ax h;exact one a i j (by rw [ux p];simp [g]) f
   ·obtain ⟨q,g,f⟩:=ax h;obtain ⟨n,rfl,f⟩:=ax f;exact one a i j (X0 g) f
  ·rename_i k' n l;obtain ⟨m,g,f⟩:=ax h;obtain ⟨r,e,fr,E,C,I,J⟩:=wN s j;exact ⟨_,.int k' m,r,f,E,pA a i C (by simp [g]),by simp [VR]⟩
  ·cases h
 ·rename_i a;have i:bZ P t=false:=by simp [bZ,a]
  split at h
  ·split at h
   ·rename_i D p;obtain ⟨n,g,f⟩:=ax h;exact one a i j (by rw [vc p];simp [g]) f
   ·obtain ⟨v,g,f⟩:=ax h;exact one a i j g f
  ·cases h
 ·rename_i d g f y A a;have i:bZ P t=false:=by
   simp only [bZ,a];cases d<;>simp_all
  split at h
  ·obtain ⟨v,g,f⟩:=ax h;exact one a i j g f
  ·cases h
 ·cases h
theorem Q2 {α:Type} {ι:Inj} {w:World} {r o base:Nat} {A:Array Value} {e:TypeId} {fr:Nat×Nat} {l:List V} (D:w.heap[r]?=some (.cells A e fr))
  (C:VRs ι l ((A.toList.drop base).take l.length)) (B:base+l.length<=A.size) {t:TypeId} {c:V->Option α} {z:α} (h:zF P t (.cells l) o c=some z):
  ∃v x,c v=some z/\(Instr.loadAt t (.pointer (some ⟨r,base+o,none⟩))).run P w=.ok x w/\VR ι v x:=by
 have one:∀{d:TypeDesc} {v:V},P.underlying t=some d->bZ P t=false->l[o]?=some v->c v=some z->
   ∃v x,c v=some z/\(Instr.loadAt t (.pointer (some ⟨r,base+o,none⟩))).run P w=.ok x w/\VR ι v x:=by
  intro d v a f m hc;obtain ⟨x,hx,p⟩:=C.get m;have u:o<l.length:=by
   rcases aH o l.length with y | y
   ·exact y
   ·rw [ga y] at m;cases m
  rw [qf u,lV] at hx;exact ⟨v,x,hc,pA a f D (by simpa using hx),p⟩
 have j:∀{d:TypeDesc},P.underlying t=some d->bZ P t=true->qs P t (.cells l) o c=some z->
   ∃v x,c v=some z/\(Instr.loadAt t (.pointer (some ⟨r,base+o,none⟩))).run P w=.ok x w/\VR ι v x:=by
  intro d a f h;simp only [qs] at h;split at h
  ·rename_i s;have hle':=aL s;refine ⟨_,_,h,pf a f D (by omega),qQ ?_⟩;have:=(C.drop o).take (P.cellsOf t);rw [xZ,jv,A9,tL (by omega)] at this;simpa using this
  ·cases h
 unfold zF at h;split at h
 ·rename_i G a;exact j a (by simp [bZ,a]) h
 ·rename_i n e a;exact j a (by simp [bZ,a]) h
 ·rename_i k a;have f:bZ P t=false:=by simp [bZ,a]
  simp only at h;split at h
  ·rename_i E i;obtain ⟨n,g,b⟩:=ax h;exact one a f (by rw [ux i];simp [g]) b
  ·obtain ⟨q,g,b⟩:=ax h;obtain ⟨n,rfl,b⟩:=ax b;exact one a f (X0 g) b
 ·rename_i a;have f:bZ P t=false:=by simp [bZ,a]
  simp only at h;split at h
  ·rename_i E i;obtain ⟨n,g,b⟩:=ax h;exact one a f (by rw [vc i];simp [g]) b
  ·obtain ⟨v,g,b⟩:=ax h;exact one a f g b
 ·rename_i d g b H F a;have f:bZ P t=false:=by
   simp only [bZ,a];cases d<;>simp_all
  simp only at h;obtain ⟨v,g,b⟩:=ax h;exact one a f g b
 ·cases h
theorem Lf.inV_ok:∀{a:Lf} {v:V} {x:a.den},a.inV v=some x->v=a.toV x
 | .i k,v,x,h=>by
  cases v<;>simp only [Lf.inV] at h<;>try cases h
  split at h
  ·rename_i C;simp only [av] at h;subst h;rw [lB C];rfl
  ·cases h
 | .bo,v,x,h=>by cases v<;>simp only [Lf.inV] at h<;>cases h;rfl
 | .s,v,x,h=>by cases v<;>simp only [Lf.inV] at h<;>cases h;rfl
theorem wU:∀{t:List Lf} {l:List V} {x:den t},yk t l=some x->l=cells t x
 | [],[],_,_=>rfl
 | [],_::_,_,h=>by simp [yk] at h
 | [a],[],_,h=>by simp [yk] at h
 | [a],[v],x,h=>by
  simp only [yk] at h;rw [Lf.inV_ok h];rfl
 | [a],_::_::_,_,h=>by simp [yk] at h
 | a::b::t,[],_,h=>by simp [yk] at h
 | a::b::t,v::vs,x,h=>by
  simp only [yk] at h;split at h
  ·rename_i y hy;split at h
   ·rename_i d c;simp only [av] at h;subst h;rw [Lf.inV_ok hy,wU c];rfl
   ·cases h
  ·cases h
theorem Fh {t:List Lf}:∀{n:Nat} {l:List V} {m:List (den t)},Dx t t.length n l=some m->l.length=n*t.length->m.length=n/\l=m.flatMap (cells t)
 | 0,l,m,h,a=>by
  simp only [Dx,av] at h;subst h;exact ⟨rfl,by simpa using a⟩
 | n+1,l,m,h,a=>by
  simp only [Dx] at h;split at h
  ·rename_i x hx;split at h
   ·rename_i m' c;simp only [av] at h;subst h;rw [iq] at a;obtain ⟨d,b⟩:=Fh c (by rw [bN];omega);refine ⟨by simp [d],?_⟩;rw [pV,<-wU hx,<-b,ur]
   ·cases h
  ·cases h
theorem I1 (ι:Inj) {t:List Lf}:∀(m:List (den t)) (a:List Value),VRs ι (m.flatMap (cells t)) a->a=m.flatMap (vals t)
 | [],a,h=>by simpa [VRs] using h
 | x::m,a,h=>by
  rw [pV] at h ⊢;have c:=h.take t.length;have b:=h.drop t.length;rw [vp (by rw [lc];exact aX _),js (by rw [lc];exact aX _)] at c;rw [iO9,jt (by rw [lc];exact aX _),lc] at b;simp only [B5,cU,dS] at b;rw [<-(oL ι t x _).1 c,<-I1 ι m _ b,ur]
end Go.Abs
