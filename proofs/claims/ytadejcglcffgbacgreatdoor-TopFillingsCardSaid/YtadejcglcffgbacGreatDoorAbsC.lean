
import Derived.Test.YtadejcglcffgbacGreatDoorAbsB
import Derived.Laws.Entries
import Derived.Laws.Cells
set_option linter.unusedSimpArgs false
set_option linter.unusedVariables false
set_option linter.defProp false
namespace Go.Abs
variable {P:Program}
def jL{t:TypeId}{d:TypeDesc}(h:P.underlying t=some d):∃i,P.info? t=some i:=by
 unfold Program.underlying at h;cases hi:P.info? t with
 | none=>simp[hi]at h
 | some i=>exact⟨i,rfl⟩
def bn{t:TypeId}(h:Nat.blt 0 (P.cellsOf t)=true):∃i,P.info? t=some i:=by
 unfold Program.cellsOf at h;cases hi:P.info? t with
 | none=>simp[hi]at h
 | some i=>exact⟨i,rfl⟩
def dN{t:TypeId}{i:TypeInfo}(h:P.info? t=some i)(w:World):(sizeOf t).run P w=.ok (P.cellsOf t) w:=by
 simp[sizeOf,typeInfo,h,Program.cellsOf]
def hP{t:TypeId}{d:TypeDesc}(h:P.underlying t=some d)(w:World):(isAgg t).run P w=.ok (bi P t) w:=by
 unfold isAgg bi;rw[h];simp only[al,aJ h,ar];cases d<;>rfl
def yf(ι:Inj){x:Value}{v:V}(h:A8 x=some v):VR ι v x/\x.cells=#[x]/\oneV v=true:=by
 unfold A8 at h;split at h<;>simp_all[Value.cells]
 all_goals (subst h;simp[VR,oneV,Value.cells,Value.oneCell'])
def uU(ι:Inj):∀{a:List Value} {l:List V},tt a=some l->VRs ι l a
 | [],_,h=>by simp only[tt,af]at h;subst h;simp[VRs]
 | x::a,l,h=>by
  simp only[tt]at h;split at h
  ·rename_i v b;split at h
   ·rename_i m hm;simp only[af]at h;subst h;simp only[VRs];exact⟨x,a,rfl,(yf ι b).1,uU ι hm⟩
   ·cases h
  ·cases h
def zZ(ι:Inj){x:Value}{v:V}(h:HV x=some v):VR ι v x:=by
 unfold HV at h;split at h
 ·split at h
  ·rename_i a;simp only[af]at h;subst h;simp only[VR];exact⟨_,rfl,uU ι a⟩
  ·cases h
 ·exact(yf ι h).1
def pq{k:IntKind}:∀{l:List V} {b:List Int},uX k l=some b->l=b.map (V.i k)
 | [],_,h=>by simp only[uX,af]at h;subst h;rfl
 | v::l,b,h=>by
  unfold uX at h;split at h<;>rename_i a
  ·cases a
  ·injection a with h1 h2;subst h1 h2;split at h
   ·rename_i c;split at h
    ·rename_i m hm;simp only[af]at h;subst h;rw[pq hm,io c];rfl
    ·cases h
   ·cases h
  ·cases h
def px:∀{l:List V} {b:List (aa)},uy l=some b->l=b.map V.s
 | [],_,h=>by simp only[uy,af]at h;subst h;rfl
 | v::l,b,h=>by
  unfold uy at h;split at h<;>rename_i a
  ·cases a
  ·injection a with h1 h2;subst h1 h2;split at h
   ·rename_i m hm;simp only[af]at h;subst h;rw[px hm];rfl
   ·cases h
  ·cases h
def VRs.of_ints{ι:Inj}{k:IntKind}:∀{A:List Int} {C:List Value},VRs ι (A.map (V.i k)) C->C=A.map (Value.int k)
 | [],_,h=>by simpa[VRs]using h
 | x::A,C,h=>by
  simp only[cU,VRs,VR]at h;obtain⟨y,F,rfl,rfl,E⟩:=h;simp[VRs.of_ints E]
def lU{ι:Inj}{t:TypeId}{l:List V}{a:Array Value}(h:VRs ι l a.toList):VR ι (xa P t l) (.agg a):=by
 unfold xa;split
 ·split
  ·rename_i b;rw[pq b]at h;simp only[VR,lW];have:=VRs.of_ints h;rw[Value.agg.injEq];apply gQ;simpa using this
  ·simp only[VR];exact⟨a,rfl,h⟩
 ·simp only[VR];exact⟨a,rfl,h⟩
def J4{ι:Inj}{t:TypeId}{v:V}{x:Value}(h:VR ι v x):VR ι (norm P t v) x:=by
 cases v<;>simp only[norm]<;>try exact h
 simp only[VR]at h;obtain⟨a,rfl,h⟩:=h;exact lU h
def ol(n:Nat):NF (0,0) n:=by
 intro j _ h;simp at h
def Av{ι:Inj}{q:Rf}{v:V}{x:Value}(h:VR ι v x)(t:TypeId):BR ι q (Gv v) (.cells x.cells t):=by
 have one:∀{v:V} {x:Value},VR ι v x->x.cells=#[x]->BR ι q (.cells [v]) (.cells x.cells t):=by
  intro v x h b;rw[b];exact⟨_,_,_,rfl,by simp only[VRs];exact⟨x,[],rfl,h,rfl⟩,ol _⟩
 cases v with
 | ag l=>
  simp only[VR]at h;obtain⟨a,rfl,h⟩:=h;exact⟨a,t,(0,0),rfl,h,ol _⟩
 | ai k n l=>
  simp only[VR]at h;obtain⟨h1,rfl⟩:=h;exact⟨t,(0,0),rfl,h1,ol _⟩
 | _=>
  simp only[Gv];refine one h ?_;simp only[VR]at h
  first
   | (rcases h with⟨_,_,rfl⟩ | ⟨_,_,rfl⟩<;>rfl)
   | (rcases h with⟨_,_,_,_,_,_,rfl⟩ | ⟨_,_,_,rfl⟩<;>rfl)
   | (subst h;rfl)
   | (obtain⟨a,h,_⟩:=h;obtain⟨_,_,_,e⟩:=uW _ a;rw[h,e];rfl)
   | (obtain⟨_,rfl,_⟩:=h;rfl)
   | (obtain⟨_,_,rfl⟩:=h;rfl)
   | (obtain⟨_,_,_,_,_,rfl⟩:=h;rfl)
   | exact h.1
def tP(k:IntKind)(l:List Int):∀(n j:Nat),oZ k l n j=(List.range n).map λi=>V.i k (l.getD (j+i) 0)
 | 0,_=>rfl
 | n+1,j=>by
  simp only[oZ,tP k l n (j+1),List.range_succ_eq_map,cU,pI,eu];congr 1;apply zf;intro i _;simp[gL,pO 1 i]
def wW(k:IntKind){l:List Int}{n:Nat}(h:l.length=n):oZ k l n 0=l.map (V.i k):=by
 rw[tP];apply xY;intro i;by_cases hi:i<n
 ·simp[hi,h▸hi,List.getD]
 ·simp[hi,ec (Nat.le_of_not_lt (h▸hi))]
def jV{ι:Inj}{v:V}{x:Value}(h:VR ι v x):VRs ι (cellsOf v) x.cells.toList:=by
 have one:∀{v:V} {x:Value},VR ι v x->x.cells=#[x]->VRs ι [v] x.cells.toList:=by
  intro v x h b;rw[b];simp only[VRs];exact⟨x,[],rfl,h,rfl⟩
 cases v with
 | ag l=>
  simp only[VR]at h;obtain⟨a,rfl,h⟩:=h;exact h
 | ai k n l=>
  simp only[VR]at h;obtain⟨h1,rfl⟩:=h;simp only[cellsOf,wW k h1,Value.cells];exact VRs.ints k l
 | _=>
  simp only[cellsOf];refine one h ?_;simp only[VR]at h
  first
   | (rcases h with⟨_,_,rfl⟩ | ⟨_,_,rfl⟩<;>rfl)
   | (rcases h with⟨_,_,_,_,_,_,rfl⟩ | ⟨_,_,_,rfl⟩<;>rfl)
   | (subst h;rfl)
   | (obtain⟨a,h,_⟩:=h;obtain⟨_,_,_,e⟩:=uW _ a;rw[h,e];rfl)
   | (obtain⟨_,rfl,_⟩:=h;rfl)
   | (obtain⟨_,_,rfl⟩:=h;rfl)
   | (obtain⟨_,_,_,_,_,rfl⟩:=h;rfl)
   | exact h.1
def aP{ι:Inj}{T:List (Nat×Option V)}{a:Act}(d:TR ι T a.tmps){x:Operand}{v:V}(h:opd T x=some v):VR ι v (a.eval x):=by
 cases x with
 | tmp t=>
  simp only[opd]at h;split at h
  ·rename_i u b;simp only[af]at h;subst h;obtain⟨y,h1,h2⟩:=d t u b;simpa[Act.eval,mV,h1]using h2
  ·cases h
 | const c=>exact zZ ι h
 | func f=>
  simp only[opd]at h;split at h
  ·rename_i e;simp only[af]at h;subst h;simp only[VR,Act.eval];exact⟨#[],(y3 e _).symm,by simp[VRs]⟩
  ·cases h
 | global g=>simp[opd]at h
def th{ι:Inj}{T:List (Nat×Option V)}{a:Act}(c:TR ι T a.tmps):∀{b:List Operand} {l:List V},opds (opd T) b=some l->VRs ι l (b.map a.eval)
 | [],_,h=>by simp only[opds,af]at h;subst h;simp[VRs]
 | x::b,l,h=>by
  simp only[opds]at h;split at h
  ·rename_i v d;split at h
   ·rename_i m hm;simp only[af]at h;subst h;simp only[cU,VRs];exact⟨_,_,rfl,aP c d,th c hm⟩
   ·cases h
  ·cases h
def yz{ι:Inj}{v:V}{x:Value}(h:VR ι v x)(b:oneV v=true):x.oneCell'=true:=by
 cases v<;>simp only[oneV,cb]at b<;>simp only[VR]at h<;>first
  | (rcases h with⟨_,_,rfl⟩ | ⟨_,_,rfl⟩<;>rfl)
  | (rcases h with⟨_,_,_,_,_,_,rfl⟩ | ⟨_,_,_,rfl⟩<;>rfl)
  | (subst h;rfl)
  | (obtain⟨a,h,_⟩:=h;obtain⟨_,_,_,e⟩:=uW _ a;rw[h,e];rfl)
  | (obtain⟨_,rfl,_⟩:=h;rfl)
  | (obtain⟨_,_,rfl⟩:=h;rfl)
  | (obtain⟨_,_,_,_,_,rfl⟩:=h;rfl)
  | exact h.2
def mU{ι:Inj}{H:List (Nat×Blk)}{nb b:Nat}{w:World}(d:WR ι H nb w){l:List V}(c:look H b=some (.cells l)):
  ∃r a e fr,ι b=some (some r)/\w.heap[r.r]?=some (.cells a e fr)/\VRs ι l a.toList/\NF fr a.size:=by
 obtain⟨r,o,h1,h2,a,e,fr,rfl,g,f⟩:=(d.blk b _ c (by simp)).real (by simp);exact⟨r,a,e,fr,h1,h2,g,f⟩
def ri{ι:Inj}{H:List (Nat×Blk)}{nb b:Nat}{w:World}(a:WR ι H nb w){k:IntKind}{n:Nat}{l:List Int}(f:look H b=some (.ints k n l)):
  ∃r e fr,ι b=some (some r)/\w.heap[r.r]?=some (.cells (l.map (Value.int k)).toArray e fr)/\l.length=n/\NF fr n:=by
 obtain⟨r,o,h1,h2,e,fr,rfl,d,c⟩:=(a.blk b _ f (by simp)).real (by simp);exact⟨r,e,fr,h1,h2,d,c⟩
def f9{ι:Inj}{H:List (Nat×Blk)}{nb b:Nat}{w:World}(f:WR ι H nb w){t:List Lf}{l:List (den t)}(d:look H b=some (.rows t l)):
  (∃r a e fr,ι b=some (some r)/\w.heap[r.r]?=some (.cells a e fr)/\l.length=r.n/\r.n<=r.k/\r.o+r.k*t.length<=a.size/\(a.toList.drop r.o).take (l.length*t.length)=l.flatMap (vals t)/\(r.fz=true\/NF fr a.size))\/
  (ι b=some none/\l=[]):=by
 rcases f.blk b _ d (by simp)with⟨r,o,h1,h2,a,e,fr,rfl,c⟩ | ⟨h1,g,h2⟩
 ·exact .inl ⟨r,a,e,fr,h1,h2,c⟩
 ·injection h2 with c h4;subst c;exact .inr ⟨h1,eq_of_heq h4⟩
def kC{t:List Lf}:∀(l:List (den t)),(l.flatMap (vals t)).length=l.length*t.length
 | []=>by simp
 | x::l=>by simp[fO,gF,kC l,ea,pO]
def Eu{t:List Lf}:∀(l:List (den t)) (j:Nat) (x:den t),l[j]?=some x->((l.flatMap (vals t)).drop (j*t.length)).take t.length=vals t x
 | [],j,x,h=>by simp at h
 | y::l,0,x,h=>by
  simp only[jr,af]at h;subst h;simp only[Nat.zero_mul,iE,fO];rw[qB (by rw[gF];exact aI _),gI (by rw[gF];exact aI _)]
 | y::l,j+1,x,h=>by
  simp only[zI]at h;simp only[fO];rw[show(j+1)*t.length=(vals t y).length+j*t.length by rw[gF,ea];omega,zN,nL (by omega)];simp only[pK,gh];exact Eu l j x h
def IY{t:List Lf}{l:List (den t)}{e:Array Value}{o:Nat}(h:(e.toList.drop o).take (l.length*t.length)=l.flatMap (vals t)){j:Nat}{x:den t}(a:l[j]?=some x):
  (e.toList.drop (o+j*t.length)).take t.length=vals t x/\j*t.length+t.length<=l.length*t.length:=by
 have d:j<l.length:=by
  rcases aA j l.length with c | c
  ·exact c
  ·rw[ec c]at a;cases a
 have b:j*t.length+t.length<=l.length*t.length:=by
  have:=kH t.length (show j+1<=l.length from d);rw[ea]at this;omega
 refine⟨?_,b⟩;have h2:=Eu l j x a;rw[<-h,xG,wx,om (by omega),vf]at h2;exact h2
def kJ{t:TypeId}{d:TypeDesc}(b:P.underlying t=some d)(f:bi P t=false){w:World}{r o:Nat}{a:Array Value}{e:TypeId}{fr:Nat×Nat}
  (h:w.heap[r]?=some (.cells a e fr)) {x:Value} (c:a[o]?=some x):(Instr.loadAt t (.pointer (some ⟨r,o,none⟩))).run P w=.ok x w:=by
 simp only[Instr.loadAt,Instr.sureAddr,loadVar,al,av,ar,hP b,f,cb,aD,run_load,aN h,c]
def kO{t:TypeId}{d:TypeDesc}(k:P.underlying t=some d)(l:bi P t=true){w:World}{r o:Nat}{a:Array Value}{e:TypeId}{fr:Nat×Nat}
  (h:w.heap[r]?=some (.cells a e fr)) (m:o+P.cellsOf t<=a.size):
  (Instr.loadAt t (.pointer (some ⟨r,o,none⟩))).run P w=.ok (.agg ((a.toList.drop o).take (P.cellsOf t)).toArray) w:=by
 obtain⟨i,hi⟩:=jL k;have b:((a.toList.drop o).take (P.cellsOf t)).length=P.cellsOf t:=by simp;omega
 have hc:=tR (P:=P) w ⟨r,o,none⟩ ((a.toList.drop o).take (P.cellsOf t)) (λj v c=>by
  have f:j<P.cellsOf t:=by
   rcases aA j (P.cellsOf t)with g | g
   ·exact g
   ·rw[ec (by omega)]at c;cases c
  rw[mM f,jx]at c;have:(⟨r,o,none⟩:Addr).add j=⟨r,o+j,none⟩:=by
   unfold Addr.add;split
   ·rename_i h0;subst h0;rfl
   ·rfl
  rw[this,aN h];simpa using c)
 rw[b]at hc;simp only[Instr.loadAt,Instr.sureAddr,loadVar,al,av,ar,hP k,l,be,dN hi,hc]
def ut{α:Type}{ι:Inj}{H:List (Nat×Blk)}{nb b o:Nat}{w:World}(k:WR ι H nb w){blk:Blk}(m:look H b=some blk){t:TypeId}{d:TypeDesc}
  (l:P.underlying t=some d) (i:bi P t=true) {c:V->Option α} {z:α} (h:lP P t blk o c=some z):
  ∃v x r,c v=some z/\ι b=some (some r)/\(Instr.loadAt t (.pointer (some ⟨r.r,o,none⟩))).run P w=.ok x w/\VR ι v x:=by
 unfold lP at h;split at h
 ·split at h
  ·rename_i g;have hle':=az g;obtain⟨r,j,e,fr,h1,h2,f,p⟩:=mU k m;have n:=f.length;have hsz':j.size=j.toList.length:=by simp
   exact⟨_,_,r,h,h1,kO l i h2 (by omega),lU (by simpa using(f.drop o).take _)⟩
  ·cases h
 ·split at h
  ·rename_i a;simp only[aw,fP]at a;obtain⟨rfl,q⟩:=a;obtain⟨r,e,fr,h1,h2,f,p⟩:=ri k m;refine⟨_,_,r,h,h1,kO l i h2 (by simp;omega),?_⟩;simp only[VR];refine⟨f,?_⟩;rw[Value.agg.injEq];apply gQ;simp only[iE];exact gI (by simp;omega)
  ·cases h
 ·cases h
def Mc{k:IntKind}{l:List V}{o:Nat}{n:Int}(h:(l.map (tI k))[o]?=some (some n)):l[o]?=some (.i k n):=by
 rw[mL]at h;cases a:l[o]? with
 | none=>rw[a]at h;cases h
 | some v=>
  rw[a]at h;simp only[dB,af]at h;unfold tI at h;split at h
  ·split at h
   ·rename_i b;rw[io b];simp only[af]at h;rw[h]
   ·cases h
  ·cases h
def Ax{α:Type}{ι:Inj}{H:List (Nat×Blk)}{nb b o:Nat}{w:World}(j:WR ι H nb w){blk:Blk}(f:look H b=some blk){t:TypeId}
  {c:V->Option α} {z:α} (h:uj P t blk o c=some z):
  ∃v x r,c v=some z/\ι b=some (some r)/\(Instr.loadAt t (.pointer (some ⟨r.r,o,none⟩))).run P w=.ok x w/\VR ι v x:=by
 have one:∀{d:TypeDesc} {l:List V} {v:V},P.underlying t=some d->bi P t=false->look H b=some (.cells l)->l[o]?=some v->c v=some z->
   ∃v x r,c v=some z/\ι b=some (some r)/\(Instr.loadAt t (.pointer (some ⟨r.r,o,none⟩))).run P w=.ok x w/\VR ι v x:=by
  intro d l v a g f u hc;obtain⟨r,F,e,fr,h1,h2,s,B⟩:=mU j f;obtain⟨x,C,p⟩:=s.get u;exact⟨v,x,r,hc,h1,kJ a g h2 (by simpa using C),p⟩
 unfold uj at h;split at h
 ·rename_i I a;exact ut j f a (by simp[bi,a]) h
 ·rename_i n e a;exact ut j f a (by simp[bi,a]) h
 ·rename_i k a;have g:bi P t=false:=by simp[bi,a]
  split at h
  ·split at h
   ·rename_i D i;obtain⟨n,h1,h2⟩:=ah h;exact one a g f (by rw[pq i];simp[h1]) h2
   ·obtain⟨q,h1,h2⟩:=ah h;obtain⟨n,rfl,h2⟩:=ah h2;exact one a g f (Mc h1) h2
  ·rename_i k' n l;obtain⟨m,h1,h2⟩:=ah h;obtain⟨r,e,fr,y,A,G,E⟩:=ri j f;exact⟨_,.int k' m,r,h2,y,kJ a g A (by simp[h1]),by simp[VR]⟩
  ·cases h
 ·rename_i a;have g:bi P t=false:=by simp[bi,a]
  split at h
  ·split at h
   ·rename_i D i;obtain⟨n,h1,h2⟩:=ah h;exact one a g f (by rw[px i];simp[h1]) h2
   ·obtain⟨v,h1,h2⟩:=ah h;exact one a g f h1 h2
  ·cases h
 ·rename_i d h1 h2 s B a;have g:bi P t=false:=by
   simp only[bi,a];cases d<;>simp_all
  split at h
  ·obtain⟨v,h1,h2⟩:=ah h;exact one a g f h1 h2
  ·cases h
 ·cases h
def HS{α:Type}{ι:Inj}{w:World}{r o base:Nat}{s:Array Value}{e:TypeId}{fr:Nat×Nat}{l:List V}(y:w.heap[r]?=some (.cells s e fr))
  (A:VRs ι l ((s.toList.drop base).take l.length)) (B:base+l.length<=s.size) {t:TypeId} {c:V->Option α} {z:α} (h:uj P t (.cells l) o c=some z):
  ∃v x,c v=some z/\(Instr.loadAt t (.pointer (some ⟨r,base+o,none⟩))).run P w=.ok x w/\VR ι v x:=by
 have one:∀{d:TypeDesc} {v:V},P.underlying t=some d->bi P t=false->l[o]?=some v->c v=some z->
   ∃v x,c v=some z/\(Instr.loadAt t (.pointer (some ⟨r,base+o,none⟩))).run P w=.ok x w/\VR ι v x:=by
  intro d v a b i hc;obtain⟨x,C,j⟩:=A.get i;have u:o<l.length:=by
   rcases aA o l.length with p | p
   ·exact p
   ·rw[ec p]at i;cases i
  rw[mM u,jx]at C;exact⟨v,x,hc,kJ a b y (by simpa using C),j⟩
 have g:∀{d:TypeDesc},P.underlying t=some d->bi P t=true->lP P t (.cells l) o c=some z->
   ∃v x,c v=some z/\(Instr.loadAt t (.pointer (some ⟨r,base+o,none⟩))).run P w=.ok x w/\VR ι v x:=by
  intro d a b h;simp only[lP]at h;split at h
  ·rename_i m;have hle':=az m;refine⟨_,_,h,kO a b y (by omega),lU ?_⟩;have:=(A.drop o).take (P.cellsOf t);rw[xG,vf,wx,om (by omega)]at this;simpa using this
  ·cases h
 unfold uj at h;split at h
 ·rename_i F a;exact g a (by simp[bi,a]) h
 ·rename_i n e a;exact g a (by simp[bi,a]) h
 ·rename_i k a;have b:bi P t=false:=by simp[bi,a]
  simp only at h;split at h
  ·rename_i D f;obtain⟨n,h1,h2⟩:=ah h;exact one a b (by rw[pq f];simp[h1]) h2
  ·obtain⟨q,h1,h2⟩:=ah h;obtain⟨n,rfl,h2⟩:=ah h2;exact one a b (Mc h1) h2
 ·rename_i a;have b:bi P t=false:=by simp[bi,a]
  simp only at h;split at h
  ·rename_i D f;obtain⟨n,h1,h2⟩:=ah h;exact one a b (by rw[px f];simp[h1]) h2
  ·obtain⟨v,h1,h2⟩:=ah h;exact one a b h1 h2
 ·rename_i d h1 h2 G E a;have b:bi P t=false:=by
   simp only[bi,a];cases d<;>simp_all
  simp only at h;obtain⟨v,h1,h2⟩:=ah h;exact one a b h1 h2
 ·cases h
def Lf.inV_ok:∀{a:Lf} {v:V} {x:a.den},a.inV v=some x->v=a.toV x
 | .i k,v,x,h=>by
  cases v<;>simp only[Lf.inV]at h<;>try cases h
  split at h
  ·rename_i A;simp only[af]at h;subst h;rw[io A];rfl
  ·cases h
 | .bo,v,x,h=>by cases v<;>simp only[Lf.inV]at h<;>cases h;rfl
 | .s,v,x,h=>by cases v<;>simp only[Lf.inV]at h<;>cases h;rfl
def rz:∀{t:List Lf} {l:List V} {x:den t},tM t l=some x->l=cells t x
 | [],[],_,_=>rfl
 | [],_::_,_,h=>by simp[tM]at h
 | [a],[],_,h=>by simp[tM]at h
 | [a],[v],x,h=>by
  simp only[tM]at h;rw[Lf.inV_ok h];rfl
 | [a],_::_::_,_,h=>by simp[tM]at h
 | a::b::t,[],_,h=>by simp[tM]at h
 | a::b::t,v::vs,x,h=>by
  simp only[tM]at h;split at h
  ·rename_i y d;split at h
   ·rename_i e c;simp only[af]at h;subst h;rw[Lf.inV_ok d,rz c];rfl
   ·cases h
  ·cases h
def xP{t:List Lf}:∀{n:Nat} {l:List V} {m:List (den t)},xo t t.length n l=some m->l.length=n*t.length->m.length=n/\l=m.flatMap (cells t)
 | 0,l,m,h,a=>by
  simp only[xo,af]at h;subst h;exact⟨rfl,by simpa using a⟩
 | n+1,l,m,h,a=>by
  simp only[xo]at h;split at h
  ·rename_i x b;split at h
   ·rename_i m' hm;simp only[af]at h;subst h;rw[ea]at a;obtain⟨h1,h2⟩:=xP hm (by rw[k7];omega);refine⟨by simp[h1],?_⟩;rw[fO,<-rz b,<-h2,qw]
   ·cases h
  ·cases h
def AG(ι:Inj){t:List Lf}:∀(m:List (den t)) (a:List Value),VRs ι (m.flatMap (cells t)) a->a=m.flatMap (vals t)
 | [],a,h=>by simpa[VRs]using h
 | x::m,a,h=>by
  rw[fO]at h ⊢;have h1:=h.take t.length;have h2:=h.drop t.length;rw[qB (by rw[ir];exact aI _),gI (by rw[ir];exact aI _)]at h1;rw[zN,nL (by rw[ir];exact aI _),ir]at h2;simp only[wt,iE,gh]at h2;rw[<-(jg ι t x _).1 h1,<-AG ι m _ h2,qw]
end Go.Abs
