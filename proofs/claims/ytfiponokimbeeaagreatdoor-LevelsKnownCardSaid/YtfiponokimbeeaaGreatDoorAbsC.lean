
/- What the abstract effect of an operation says of the model's own operation: the parts of it.
   Conditions: none; generic over the program. -/
import Derived.Test.YtfiponokimbeeaaGreatDoorAbsB
import Derived.Laws.Entries
import Derived.Laws.Cells
set_option linter.unusedSimpArgs false
set_option linter.unusedVariables false
namespace Go.Abs
variable {P:Program}
theorem mc {t:TypeId} {d:TypeDesc} (h:P.underlying t=some d):∃i,P.info? t=some i:=by
 unfold Program.underlying at h;cases hi:P.info? t with
 | none=>simp [hi] at h
 | some i=>exact ⟨i,rfl⟩
theorem bK {t:TypeId} (h:Nat.blt 0 (P.cellsOf t)=true):∃i,P.info? t=some i:=by
 unfold Program.cellsOf at h;cases hi:P.info? t with
 | none=>simp [hi] at h
 | some i=>exact ⟨i,rfl⟩
theorem fw {t:TypeId} {i:TypeInfo} (h:P.info? t=some i) (w:World):(sizeOf t).run P w=.ok (P.cellsOf t) w:=by
 simp [sizeOf,typeInfo,h,Program.cellsOf]
theorem jm {t:TypeId} {d:TypeDesc} (h:P.underlying t=some d) (w:World):(isAgg t).run P w=.ok (bJ P t) w:=by
 unfold isAgg bJ;rw [h];simp only [aw,aT h,ay];cases d<;>rfl
theorem AV (ι:Inj) {x:Value} {v:V} (h:Gg x=some v):VR ι v x/\x.cells=#[x]/\oneV v=true:=by
 unfold Gg at h;split at h<;>simp_all [Value.cells]
 all_goals (subst h;simp [VR,oneV,Value.cells,Value.oneCell'])
theorem yQ (ι:Inj):∀{a:List Value} {l:List V},vD a=some l->VRs ι l a
 | [],_,h=>by simp only [vD,ak] at h;subst h;simp [VRs]
 | x::a,l,h=>by
  simp only [vD] at h;split at h
  ·rename_i v b;split at h
   ·rename_i m c;simp only [ak] at h;subst h;simp only [VRs];exact ⟨x,a,rfl,(AV ι b).1,yQ ι c⟩
   ·cases h
  ·cases h
theorem EX (ι:Inj) {x:Value} {v:V} (h:M7 x=some v):VR ι v x:=by
 unfold M7 at h;split at h
 ·split at h
  ·rename_i a;simp only [ak] at h;subst h;simp only [VR];exact ⟨_,rfl,yQ ι a⟩
  ·cases h
 ·exact (AV ι h).1
theorem sX {k:IntKind}:∀{l:List V} {b:List Int},yC k l=some b->l=b.map (V.i k)
 | [],_,h=>by simp only [yC,ak] at h;subst h;rfl
 | v::l,b,h=>by
  unfold yC at h;split at h<;>rename_i a
  ·cases a
  ·injection a with h1 h2;subst h1 h2;split at h
   ·rename_i d;split at h
    ·rename_i m c;simp only [ak] at h;subst h;rw [sX c,jy d];rfl
    ·cases h
   ·cases h
  ·cases h
theorem sW:∀{l:List V} {b:List (aa)},yE l=some b->l=b.map V.s
 | [],_,h=>by simp only [yE,ak] at h;subst h;rfl
 | v::l,b,h=>by
  unfold yE at h;split at h<;>rename_i a
  ·cases a
  ·injection a with h1 h2;subst h1 h2;split at h
   ·rename_i m c;simp only [ak] at h;subst h;rw [sW c];rfl
   ·cases h
  ·cases h
theorem VRs.of_ints {ι:Inj} {k:IntKind}:∀{C:List Int} {E:List Value},VRs ι (C.map (V.i k)) E->E=C.map (Value.int k)
 | [],_,h=>by simpa [VRs] using h
 | x::C,E,h=>by
  simp only [fk,VRs,VR] at h;obtain ⟨y,G,rfl,rfl,F⟩:=h;simp [VRs.of_ints F]
theorem pa {ι:Inj} {t:TypeId} {l:List V} {a:Array Value} (h:VRs ι l a.toList):VR ι (Bc P t l) (.agg a):=by
 unfold Bc;split
 ·split
  ·rename_i hx;rw [sX hx] at h;simp only [VR,mN];have:=VRs.of_ints h;rw [Value.agg.injEq];apply jQ;simpa using this
  ·simp only [VR];exact ⟨a,rfl,h⟩
 ·simp only [VR];exact ⟨a,rfl,h⟩
theorem PR {ι:Inj} {t:TypeId} {v:V} {x:Value} (h:VR ι v x):VR ι (norm P t v) x:=by
 cases v<;>simp only [norm]<;>try exact h
 simp only [VR] at h;obtain ⟨a,rfl,h⟩:=h;exact pa h
theorem sq (n:Nat):NF (0,0) n:=by
 intro j _ h;simp at h
theorem E4 {ι:Inj} {q:Rf} {v:V} {x:Value} (h:VR ι v x) (t:TypeId):BR ι q (LU v) (.cells x.cells t):=by
 have one:∀{v:V} {x:Value},VR ι v x->x.cells=#[x]->BR ι q (.cells [v]) (.cells x.cells t):=by
  intro v x h hx;rw [hx];exact ⟨_,_,_,rfl,by simp only [VRs];exact ⟨x,[],rfl,h,rfl⟩,sq _⟩
 cases v with
 | ag l=>
  simp only [VR] at h;obtain ⟨a,rfl,h⟩:=h;exact ⟨a,t,(0,0),rfl,h,sq _⟩
 | ai k n l=>
  simp only [VR] at h;obtain ⟨b,rfl⟩:=h;exact ⟨t,(0,0),rfl,b,sq _⟩
 | _=>
  simp only [LU];refine one h ?_;simp only [VR] at h
  first
   | (rcases h with ⟨_,_,rfl⟩ | ⟨_,_,rfl⟩<;>rfl)
   | (rcases h with ⟨_,_,_,_,_,_,rfl⟩ | ⟨_,_,_,rfl⟩<;>rfl)
   | (subst h;rfl)
   | (obtain ⟨a,h,_⟩:=h;obtain ⟨_,_,_,e⟩:=yI _ a;rw [h,e];rfl)
   | (obtain ⟨_,rfl,_⟩:=h;rfl)
   | (obtain ⟨_,_,rfl⟩:=h;rfl)
   | (obtain ⟨_,_,_,_,_,rfl⟩:=h;rfl)
   | exact h.1
theorem xl (k:IntKind) (l:List Int):∀(n j:Nat),sS k l n j=(List.range n).map λi=>V.i k (l.getD (j+i) 0)
 | 0,_=>rfl
 | n+1,j=>by
  simp only [sS,xl k l n (j+1),List.range_succ_eq_map,fk,tP,cn];congr 1;apply List.map_congr_left;intro i _;simp [fY,oN 1 i]
theorem CM (k:IntKind) {l:List Int} {n:Nat} (h:l.length=n):sS k l n 0=l.map (V.i k):=by
 rw [xl];apply Bg;intro i;by_cases hi:i<n
 ·simp [hi,h▸hi,List.getD]
 ·simp [hi,fW (Nat.le_of_not_lt (h▸hi))]
theorem mi {ι:Inj} {v:V} {x:Value} (h:VR ι v x):VRs ι (cellsOf v) x.cells.toList:=by
 have one:∀{v:V} {x:Value},VR ι v x->x.cells=#[x]->VRs ι [v] x.cells.toList:=by
  intro v x h hx;rw [hx];simp only [VRs];exact ⟨x,[],rfl,h,rfl⟩
 cases v with
 | ag l=>
  simp only [VR] at h;obtain ⟨a,rfl,h⟩:=h;exact h
 | ai k n l=>
  simp only [VR] at h;obtain ⟨b,rfl⟩:=h;simp only [cellsOf,CM k b,Value.cells];exact VRs.ints k l
 | _=>
  simp only [cellsOf];refine one h ?_;simp only [VR] at h
  first
   | (rcases h with ⟨_,_,rfl⟩ | ⟨_,_,rfl⟩<;>rfl)
   | (rcases h with ⟨_,_,_,_,_,_,rfl⟩ | ⟨_,_,_,rfl⟩<;>rfl)
   | (subst h;rfl)
   | (obtain ⟨a,h,_⟩:=h;obtain ⟨_,_,_,e⟩:=yI _ a;rw [h,e];rfl)
   | (obtain ⟨_,rfl,_⟩:=h;rfl)
   | (obtain ⟨_,_,rfl⟩:=h;rfl)
   | (obtain ⟨_,_,_,_,_,rfl⟩:=h;rfl)
   | exact h.1
theorem bg {ι:Inj} {T:List (Nat×Option V)} {a:Act} (e:TR ι T a.tmps) {x:Operand} {v:V} (h:opd T x=some v):VR ι v (a.eval x):=by
 cases x with
 | tmp t=>
  simp only [opd] at h;split at h
  ·rename_i u d;simp only [ak] at h;subst h;obtain ⟨y,b,i⟩:=e t u d;simpa [Act.eval,qN,b] using i
  ·cases h
 | const c=>exact EX ι h
 | func f=>
  simp only [opd] at h;split at h
  ·rename_i j;simp only [ak] at h;subst h;simp only [VR,Act.eval];exact ⟨#[],(Em j _).symm,by simp [VRs]⟩
  ·cases h
 | global g=>simp [opd] at h
theorem vw {ι:Inj} {T:List (Nat×Option V)} {a:Act} (c:TR ι T a.tmps):∀{b:List Operand} {l:List V},opds (opd T) b=some l->VRs ι l (b.map a.eval)
 | [],_,h=>by simp only [opds,ak] at h;subst h;simp [VRs]
 | x::b,l,h=>by
  simp only [opds] at h;split at h
  ·rename_i v d;split at h
   ·rename_i m e;simp only [ak] at h;subst h;simp only [fk,VRs];exact ⟨_,_,rfl,bg c d,vw c e⟩
   ·cases h
  ·cases h
theorem Cd {ι:Inj} {v:V} {x:Value} (h:VR ι v x) (b:oneV v=true):x.oneCell'=true:=by
 cases v<;>simp only [oneV,bA] at b<;>simp only [VR] at h<;>first
  | (rcases h with ⟨_,_,rfl⟩ | ⟨_,_,rfl⟩<;>rfl)
  | (rcases h with ⟨_,_,_,_,_,_,rfl⟩ | ⟨_,_,_,rfl⟩<;>rfl)
  | (subst h;rfl)
  | (obtain ⟨a,h,_⟩:=h;obtain ⟨_,_,_,e⟩:=yI _ a;rw [h,e];rfl)
  | (obtain ⟨_,rfl,_⟩:=h;rfl)
  | (obtain ⟨_,_,rfl⟩:=h;rfl)
  | (obtain ⟨_,_,_,_,_,rfl⟩:=h;rfl)
  | exact h.2
theorem qj {ι:Inj} {H:List (Nat×Blk)} {nb b:Nat} {w:World} (i:WR ι H nb w) {l:List V} (c:look H b=some (.cells l)):
  ∃r a e fr,ι b=some (some r)/\w.heap[r.r]?=some (.cells a e fr)/\VRs ι l a.toList/\NF fr a.size:=by
 obtain ⟨r,o,d,g,a,e,fr,rfl,h,f⟩:=(i.blk b _ c (by simp)).real (by simp);exact ⟨r,a,e,fr,d,g,h,f⟩
theorem ve {ι:Inj} {H:List (Nat×Blk)} {nb b:Nat} {w:World} (h:WR ι H nb w) {k:IntKind} {n:Nat} {l:List Int} (a:look H b=some (.ints k n l)):
  ∃r e fr,ι b=some (some r)/\w.heap[r.r]?=some (.cells (l.map (Value.int k)).toArray e fr)/\l.length=n/\NF fr n:=by
 obtain ⟨r,o,c,f,e,fr,rfl,g,d⟩:=(h.blk b _ a (by simp)).real (by simp);exact ⟨r,e,fr,c,f,g,d⟩
theorem iH {ι:Inj} {H:List (Nat×Blk)} {nb b:Nat} {w:World} (h:WR ι H nb w) {t:List Lf} {l:List (den t)} (g:look H b=some (.rows t l)):
  (∃r a e fr,ι b=some (some r)/\w.heap[r.r]?=some (.cells a e fr)/\l.length=r.n/\r.n<=r.k/\r.o+r.k*t.length<=a.size/\(a.toList.drop r.o).take (l.length*t.length)=l.flatMap (vals t)/\(r.fz=true\/NF fr a.size))\/
  (ι b=some none/\l=[]):=by
 rcases h.blk b _ g (by simp) with ⟨r,o,c,d,a,e,fr,rfl,f⟩ | ⟨c,i,d⟩
 ·exact .inl ⟨r,a,e,fr,c,d,f⟩
 ·injection d with f h4;subst f;exact .inr ⟨c,eq_of_heq h4⟩
theorem nj {t:List Lf}:∀(l:List (den t)),(l.flatMap (vals t)).length=l.length*t.length
 | []=>by simp
 | x::l=>by simp [na,jc,nj l,f9,oN]
theorem IK {t:List Lf}:∀(l:List (den t)) (j:Nat) (x:den t),l[j]?=some x->((l.flatMap (vals t)).drop (j*t.length)).take t.length=vals t x
 | [],j,x,h=>by simp at h
 | y::l,0,x,h=>by
  simp only [kU,ak] at h;subst h;simp only [zH,ch,na];rw [ul (by rw [jc];exact aP _),lu (by rw [jc];exact aP _)]
 | y::l,j+1,x,h=>by
  simp only [FR] at h;simp only [na];rw [show (j+1)*t.length=(vals t y).length+j*t.length by rw [jc,f9];omega,ET,iP (by omega)];simp only [D2,dD];exact IK l j x h
theorem OI {t:List Lf} {l:List (den t)} {e:Array Value} {o:Nat} (h:(e.toList.drop o).take (l.length*t.length)=l.flatMap (vals t)) {j:Nat} {x:den t} (b:l[j]?=some x):
  (e.toList.drop (o+j*t.length)).take t.length=vals t x/\j*t.length+t.length<=l.length*t.length:=by
 have d:j<l.length:=by
  rcases aF j l.length with a | a
  ·exact a
  ·rw [fW a] at b;cases b
 have c:j*t.length+t.length<=l.length*t.length:=by
  have:=nF t.length (show j+1<=l.length from d);rw [f9] at this;omega
 refine ⟨?_,c⟩;have f:=IK l j x b;rw [<-h,wP,zY,sy (by omega),iL] at f;exact f
theorem nG {t:TypeId} {d:TypeDesc} (c:P.underlying t=some d) (b:bJ P t=false) {w:World} {r o:Nat} {a:Array Value} {e:TypeId} {fr:Nat×Nat}
  (h:w.heap[r]?=some (.cells a e fr)) {x:Value} (hx:a[o]?=some x):(Instr.loadAt t (.pointer (some ⟨r,o,none⟩))).run P w=.ok x w:=by
 simp only [Instr.loadAt,Instr.sureAddr,loadVar,aw,aB,ay,jm c,b,bA,aC,run_load,bf h,hx]
theorem nL {t:TypeId} {d:TypeDesc} (k:P.underlying t=some d) (m:bJ P t=true) {w:World} {r o:Nat} {a:Array Value} {e:TypeId} {fr:Nat×Nat}
  (h:w.heap[r]?=some (.cells a e fr)) (n:o+P.cellsOf t<=a.size):
  (Instr.loadAt t (.pointer (some ⟨r,o,none⟩))).run P w=.ok (.agg ((a.toList.drop o).take (P.cellsOf t)).toArray) w:=by
 obtain ⟨i,hi⟩:=mc k;have b:((a.toList.drop o).take (P.cellsOf t)).length=P.cellsOf t:=by simp;omega
 have hc:=vi (P:=P) w ⟨r,o,none⟩ ((a.toList.drop o).take (P.cellsOf t)) (λj v c=>by
  have f:j<P.cellsOf t:=by
   rcases aF j (P.cellsOf t) with g | g
   ·exact g
   ·rw [fW (by omega)] at c;cases c
  rw [pS f,lO] at c;have:(⟨r,o,none⟩:Addr).add j=⟨r,o+j,none⟩:=by
   unfold Addr.add;split
   ·rename_i l;subst l;rfl
   ·rfl
  rw [this,bf h];simpa using c)
 rw [b] at hc;simp only [Instr.loadAt,Instr.sureAddr,loadVar,aw,aB,ay,jm k,m,aK,fw hi,hc]
theorem yq {α:Type} {ι:Inj} {H:List (Nat×Blk)} {nb b o:Nat} {w:World} (p:WR ι H nb w) {blk:Blk} (l:look H b=some blk) {t:TypeId} {d:TypeDesc}
  (n:P.underlying t=some d) (m:bJ P t=true) {c:V->Option α} {z:α} (h:oP P t blk o c=some z):
  ∃v x r,c v=some z/\ι b=some (some r)/\(Instr.loadAt t (.pointer (some ⟨r.r,o,none⟩))).run P w=.ok x w/\VR ι v x:=by
 unfold oP at h;split at h
 ·split at h
  ·rename_i i;have hle':=aE i;obtain ⟨r,k,e,fr,g,j,f,u⟩:=qj p l;have q:=f.length;have hsz':k.size=k.toList.length:=by simp
   exact ⟨_,_,r,h,g,nL n m j (by omega),pa (by simpa using (f.drop o).take _)⟩
  ·cases h
 ·split at h
  ·rename_i a;simp only [az,ie] at a;obtain ⟨rfl,s⟩:=a;obtain ⟨r,e,fr,g,j,f,u⟩:=ve p l;refine ⟨_,_,r,h,g,nL n m j (by simp;omega),?_⟩;simp only [VR];refine ⟨f,?_⟩;rw [Value.agg.injEq];apply jQ;simp only [ch];exact lu (by simp;omega)
  ·cases h
 ·cases h
theorem Up {k:IntKind} {l:List V} {o:Nat} {n:Int} (h:(l.map (tI k))[o]?=some (some n)):l[o]?=some (.i k n):=by
 rw [lG] at h;cases a:l[o]? with
 | none=>rw [a] at h;cases h
 | some v=>
  rw [a] at h;simp only [eo,ak] at h;unfold tI at h;split at h
  ·split at h
   ·rename_i b;rw [jy b];simp only [ak] at h;rw [h]
   ·cases h
  ·cases h
theorem FW {α:Type} {ι:Inj} {H:List (Nat×Blk)} {nb b o:Nat} {w:World} (s:WR ι H nb w) {blk:Blk} (i:look H b=some blk) {t:TypeId}
  {c:V->Option α} {z:α} (h:xK P t blk o c=some z):
  ∃v x r,c v=some z/\ι b=some (some r)/\(Instr.loadAt t (.pointer (some ⟨r.r,o,none⟩))).run P w=.ok x w/\VR ι v x:=by
 have one:∀{d:TypeDesc} {l:List V} {v:V},P.underlying t=some d->bJ P t=false->look H b=some (.cells l)->l[o]?=some v->c v=some z->
   ∃v x r,c v=some z/\ι b=some (some r)/\(Instr.loadAt t (.pointer (some ⟨r.r,o,none⟩))).run P w=.ok x w/\VR ι v x:=by
  intro d l v a j i D hc;obtain ⟨r,F,e,fr,g,f,y,B⟩:=qj s i;obtain ⟨x,hx,u⟩:=y.get D;exact ⟨v,x,r,hc,g,nG a j f (by simpa using hx),u⟩
 unfold xK at h;split at h
 ·rename_i G a;exact yq s i a (by simp [bJ,a]) h
 ·rename_i n e a;exact yq s i a (by simp [bJ,a]) h
 ·rename_i k a;have j:bJ P t=false:=by simp [bJ,a]
  split at h
  ·split at h
   ·rename_i C p;obtain ⟨n,g,f⟩:=ar h;exact one a j i (by rw [sX p];simp [g]) f
   ·obtain ⟨q,g,f⟩:=ar h;obtain ⟨n,rfl,f⟩:=ar f;exact one a j i (Up g) f
  ·rename_i k' n l;obtain ⟨m,g,f⟩:=ar h;obtain ⟨r,e,fr,A,E,I,J⟩:=ve s i;exact ⟨_,.int k' m,r,f,A,nG a j E (by simp [g]),by simp [VR]⟩
  ·cases h
 ·rename_i a;have j:bJ P t=false:=by simp [bJ,a]
  split at h
  ·split at h
   ·rename_i C p;obtain ⟨n,g,f⟩:=ar h;exact one a j i (by rw [sW p];simp [g]) f
   ·obtain ⟨v,g,f⟩:=ar h;exact one a j i g f
  ·cases h
 ·rename_i d g f y B a;have j:bJ P t=false:=by
   simp only [bJ,a];cases d<;>simp_all
  split at h
  ·obtain ⟨v,g,f⟩:=ar h;exact one a j i g f
  ·cases h
 ·cases h
theorem MR {α:Type} {ι:Inj} {w:World} {r o base:Nat} {m:Array Value} {e:TypeId} {fr:Nat×Nat} {l:List V} (C:w.heap[r]?=some (.cells m e fr))
  (D:VRs ι l ((m.toList.drop base).take l.length)) (B:base+l.length<=m.size) {t:TypeId} {c:V->Option α} {z:α} (h:xK P t (.cells l) o c=some z):
  ∃v x,c v=some z/\(Instr.loadAt t (.pointer (some ⟨r,base+o,none⟩))).run P w=.ok x w/\VR ι v x:=by
 have one:∀{d:TypeDesc} {v:V},P.underlying t=some d->bJ P t=false->l[o]?=some v->c v=some z->
   ∃v x,c v=some z/\(Instr.loadAt t (.pointer (some ⟨r,base+o,none⟩))).run P w=.ok x w/\VR ι v x:=by
  intro d v a f A hc;obtain ⟨x,hx,s⟩:=D.get A;have y:o<l.length:=by
   rcases aF o l.length with p | p
   ·exact p
   ·rw [fW p] at A;cases A
  rw [pS y,lO] at hx;exact ⟨v,x,hc,nG a f C (by simpa using hx),s⟩
 have j:∀{d:TypeDesc},P.underlying t=some d->bJ P t=true->oP P t (.cells l) o c=some z->
   ∃v x,c v=some z/\(Instr.loadAt t (.pointer (some ⟨r,base+o,none⟩))).run P w=.ok x w/\VR ι v x:=by
  intro d a f h;simp only [oP] at h;split at h
  ·rename_i u;have hle':=aE u;refine ⟨_,_,h,nL a f C (by omega),pa ?_⟩;have:=(D.drop o).take (P.cellsOf t);rw [wP,iL,zY,sy (by omega)] at this;simpa using this
  ·cases h
 unfold xK at h;split at h
 ·rename_i H a;exact j a (by simp [bJ,a]) h
 ·rename_i n e a;exact j a (by simp [bJ,a]) h
 ·rename_i k a;have f:bJ P t=false:=by simp [bJ,a]
  simp only at h;split at h
  ·rename_i E i;obtain ⟨n,g,b⟩:=ar h;exact one a f (by rw [sX i];simp [g]) b
  ·obtain ⟨q,g,b⟩:=ar h;obtain ⟨n,rfl,b⟩:=ar b;exact one a f (Up g) b
 ·rename_i a;have f:bJ P t=false:=by simp [bJ,a]
  simp only at h;split at h
  ·rename_i E i;obtain ⟨n,g,b⟩:=ar h;exact one a f (by rw [sW i];simp [g]) b
  ·obtain ⟨v,g,b⟩:=ar h;exact one a f g b
 ·rename_i d g b F G a;have f:bJ P t=false:=by
   simp only [bJ,a];cases d<;>simp_all
  simp only at h;obtain ⟨v,g,b⟩:=ar h;exact one a f g b
 ·cases h
theorem Lf.inV_ok:∀{a:Lf} {v:V} {x:a.den},a.inV v=some x->v=a.toV x
 | .i k,v,x,h=>by
  cases v<;>simp only [Lf.inV] at h<;>try cases h
  split at h
  ·rename_i C;simp only [ak] at h;subst h;rw [jy C];rfl
  ·cases h
 | .bo,v,x,h=>by cases v<;>simp only [Lf.inV] at h<;>cases h;rfl
 | .s,v,x,h=>by cases v<;>simp only [Lf.inV] at h<;>cases h;rfl
theorem uP:∀{t:List Lf} {l:List V} {x:den t},wS t l=some x->l=cells t x
 | [],[],_,_=>rfl
 | [],_::_,_,h=>by simp [wS] at h
 | [a],[],_,h=>by simp [wS] at h
 | [a],[v],x,h=>by
  simp only [wS] at h;rw [Lf.inV_ok h];rfl
 | [a],_::_::_,_,h=>by simp [wS] at h
 | a::b::t,[],_,h=>by simp [wS] at h
 | a::b::t,v::vs,x,h=>by
  simp only [wS] at h;split at h
  ·rename_i y hy;split at h
   ·rename_i d c;simp only [ak] at h;subst h;rw [Lf.inV_ok hy,uP c];rfl
   ·cases h
  ·cases h
theorem BM {t:List Lf}:∀{n:Nat} {l:List V} {m:List (den t)},AT t t.length n l=some m->l.length=n*t.length->m.length=n/\l=m.flatMap (cells t)
 | 0,l,m,h,a=>by
  simp only [AT,ak] at h;subst h;exact ⟨rfl,by simpa using a⟩
 | n+1,l,m,h,a=>by
  simp only [AT] at h;split at h
  ·rename_i x hx;split at h
   ·rename_i m' c;simp only [ak] at h;subst h;rw [f9] at a;obtain ⟨d,b⟩:=BM c (by rw [cY];omega);refine ⟨by simp [d],?_⟩;rw [na,<-uP hx,<-b,tW]
   ·cases h
  ·cases h
theorem FK (ι:Inj) {t:List Lf}:∀(m:List (den t)) (a:List Value),VRs ι (m.flatMap (cells t)) a->a=m.flatMap (vals t)
 | [],a,h=>by simpa [VRs] using h
 | x::m,a,h=>by
  rw [na] at h ⊢;have c:=h.take t.length;have b:=h.drop t.length;rw [ul (by rw [jG];exact aP _),lu (by rw [jG];exact aP _)] at c;rw [ET,iP (by rw [jG];exact aP _),jG] at b;simp only [AG,ch,dD] at b;rw [<-(my ι t x _).1 c,<-FK ι m _ b,tW]
end Go.Abs
