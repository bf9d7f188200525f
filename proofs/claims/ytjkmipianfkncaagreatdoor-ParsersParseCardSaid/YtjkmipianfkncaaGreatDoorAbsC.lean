
import Derived.Test.YtjkmipianfkncaaGreatDoorAbsB
import Derived.Laws.Entries
import Derived.Laws.Cells
set_option linter.unusedSimpArgs false
set_option linter.unusedVariables false
set_option linter.defProp false
namespace Go.Abs
variable {P:Program}
def mi{t:TypeId}{d:TypeDesc}(h:P.underlying t=some d):∃i,P.info? t=some i:=by
 unfold Program.underlying at h;cases hi:P.info? t with
 | none=>simp[hi]at h
 | some i=>exact⟨i,rfl⟩
def bQ{t:TypeId}(h:Nat.blt 0 (P.cellsOf t)=true):∃i,P.info? t=some i:=by
 unfold Program.cellsOf at h;cases hi:P.info? t with
 | none=>simp[hi]at h
 | some i=>exact⟨i,rfl⟩
def fN{t:TypeId}{i:TypeInfo}(h:P.info? t=some i)(w:World):(sizeOf t).run P w=.ok (P.cellsOf t) w:=by
 simp[sizeOf,typeInfo,h,Program.cellsOf]
def jY{t:TypeId}{d:TypeDesc}(h:P.underlying t=some d)(w:World):(isAgg t).run P w=.ok (bM P t) w:=by
 unfold isAgg bM;rw[h];simp only[aw,aT h,ay];cases d<;>rfl
def BJ(ι:Inj){x:Value}{v:V}(h:FL x=some v):VR ι v x/\x.cells=#[x]/\oneV v=true:=by
 unfold FL at h;split at h<;>simp_all[Value.cells]
 all_goals (subst h;simp[VR,oneV,Value.cells,Value.oneCell'])
def yC(ι:Inj):∀{a:List Value} {l:List V},wA a=some l->VRs ι l a
 | [],_,h=>by simp only[wA,ar]at h;subst h;simp[VRs]
 | x::a,l,h=>by
  simp only[wA]at h;split at h
  ·rename_i v c;split at h
   ·rename_i m b;simp only[ar]at h;subst h;simp only[VRs];exact⟨x,a,rfl,(BJ ι c).1,yC ι b⟩
   ·cases h
  ·cases h
def FN(ι:Inj){x:Value}{v:V}(h:MI x=some v):VR ι v x:=by
 unfold MI at h;split at h
 ·split at h
  ·rename_i a;simp only[ar]at h;subst h;simp only[VR];exact⟨_,rfl,yC ι a⟩
  ·cases h
 ·exact(BJ ι h).1
def sT{k:IntKind}:∀{l:List V} {b:List Int},yJ k l=some b->l=b.map (V.i k)
 | [],_,h=>by simp only[yJ,ar]at h;subst h;rfl
 | v::l,b,h=>by
  unfold yJ at h;split at h<;>rename_i a
  ·cases a
  ·injection a with h1 h2;subst h1 h2;split at h
   ·rename_i d;split at h
    ·rename_i m c;simp only[ar]at h;subst h;rw[sT c,kn d];rfl
    ·cases h
   ·cases h
  ·cases h
def tf:∀{l:List V} {b:List (aa)},xN l=some b->l=b.map V.s
 | [],_,h=>by simp only[xN,ar]at h;subst h;rfl
 | v::l,b,h=>by
  unfold xN at h;split at h<;>rename_i a
  ·cases a
  ·injection a with h1 h2;subst h1 h2;split at h
   ·rename_i m c;simp only[ar]at h;subst h;rw[tf c];rfl
   ·cases h
  ·cases h
def VRs.of_ints{ι:Inj}{k:IntKind}:∀{C:List Int} {E:List Value},VRs ι (C.map (V.i k)) E->E=C.map (Value.int k)
 | [],_,h=>by simpa[VRs]using h
 | x::C,E,h=>by
  simp only[ge,VRs,VR]at h;obtain⟨y,ys,rfl,rfl,F⟩:=h;simp[VRs.of_ints F]
def oW{ι:Inj}{t:TypeId}{l:List V}{a:Array Value}(h:VRs ι l a.toList):VR ι (BK P t l) (.agg a):=by
 unfold BK;split
 ·split
  ·rename_i hx;rw[sT hx]at h;simp only[VR,jg];have:=VRs.of_ints h;rw[Value.agg.injEq];apply mg;simpa using this
  ·simp only[VR];exact⟨a,rfl,h⟩
 ·simp only[VR];exact⟨a,rfl,h⟩
def P9{ι:Inj}{t:TypeId}{v:V}{x:Value}(h:VR ι v x):VR ι (norm P t v) x:=by
 cases v<;>simp only[norm]<;>try exact h
 simp only[VR]at h;obtain⟨a,rfl,h⟩:=h;exact oW h
def rV(n:Nat):NF (0,0) n:=by
 intro j _ h;simp at h
def Gx{ι:Inj}{q:Rf}{v:V}{x:Value}(h:VR ι v x)(t:TypeId):BR ι q (Np v) (.cells x.cells t):=by
 have one:∀{v:V} {x:Value},VR ι v x->x.cells=#[x]->BR ι q (.cells [v]) (.cells x.cells t):=by
  intro v x h hx;rw[hx];exact⟨_,_,_,rfl,by simp only[VRs];exact⟨x,[],rfl,h,rfl⟩,rV _⟩
 cases v with
 | ag l=>
  simp only[VR]at h;obtain⟨a,rfl,h⟩:=h;exact⟨a,t,(0,0),rfl,h,rV _⟩
 | ai k n l=>
  simp only[VR]at h;obtain⟨b,rfl⟩:=h;exact⟨t,(0,0),rfl,b,rV _⟩
 | _=>
  simp only[Np];refine one h ?_;simp only[VR]at h
  first
   | (rcases h with⟨_,_,rfl⟩ | ⟨_,_,rfl⟩<;>rfl)
   | (rcases h with⟨_,_,_,_,_,_,rfl⟩ | ⟨_,_,_,rfl⟩<;>rfl)
   | (subst h;rfl)
   | (obtain⟨a,h,_⟩:=h;obtain⟨_,_,_,e⟩:=xY _ a;rw[h,e];rfl)
   | (obtain⟨_,rfl,_⟩:=h;rfl)
   | (obtain⟨_,_,rfl⟩:=h;rfl)
   | (obtain⟨_,_,_,_,_,rfl⟩:=h;rfl)
   | exact h.1
def vg(k:IntKind)(l:List Int):∀(n j:Nat),sB k l n j=(List.range n).map λi=>V.i k (l.getD (j+i) 0)
 | 0,_=>rfl
 | n+1,j=>by
  simp only[sB,vg k l n (j+1),List.range_succ_eq_map,ge,vD,ct];congr 1;apply List.map_congr_left;intro i _;simp[gN,pV 1 i]
def B9(k:IntKind){l:List Int}{n:Nat}(h:l.length=n):sB k l n 0=l.map (V.i k):=by
 rw[vg];apply CO;intro i;by_cases hi:i<n
 ·simp[hi,h▸hi,List.getD]
 ·simp[hi,gC (Nat.le_of_not_lt (h▸hi))]
def mI{ι:Inj}{v:V}{x:Value}(h:VR ι v x):VRs ι (cellsOf v) x.cells.toList:=by
 have one:∀{v:V} {x:Value},VR ι v x->x.cells=#[x]->VRs ι [v] x.cells.toList:=by
  intro v x h hx;rw[hx];simp only[VRs];exact⟨x,[],rfl,h,rfl⟩
 cases v with
 | ag l=>
  simp only[VR]at h;obtain⟨a,rfl,h⟩:=h;exact h
 | ai k n l=>
  simp only[VR]at h;obtain⟨b,rfl⟩:=h;simp only[cellsOf,B9 k b,Value.cells];exact VRs.ints k l
 | _=>
  simp only[cellsOf];refine one h ?_;simp only[VR]at h
  first
   | (rcases h with⟨_,_,rfl⟩ | ⟨_,_,rfl⟩<;>rfl)
   | (rcases h with⟨_,_,_,_,_,_,rfl⟩ | ⟨_,_,_,rfl⟩<;>rfl)
   | (subst h;rfl)
   | (obtain⟨a,h,_⟩:=h;obtain⟨_,_,_,e⟩:=xY _ a;rw[h,e];rfl)
   | (obtain⟨_,rfl,_⟩:=h;rfl)
   | (obtain⟨_,_,rfl⟩:=h;rfl)
   | (obtain⟨_,_,_,_,_,rfl⟩:=h;rfl)
   | exact h.1
def bp{ι:Inj}{T:List (Nat×Option V)}{a:Act}(j:TR ι T a.tmps){x:Operand}{v:V}(h:opd T x=some v):VR ι v (a.eval x):=by
 cases x with
 | tmp t=>
  simp only[opd]at h;split at h
  ·rename_i u e;simp only[ar]at h;subst h;obtain⟨y,d,b⟩:=j t u e;simpa[Act.eval,qg,d]using b
  ·cases h
 | const c=>exact FN ι h
 | func f=>
  simp only[opd]at h;split at h
  ·rename_i i;simp only[ar]at h;subst h;simp only[VR,Act.eval];exact⟨#[],(Di i _).symm,by simp[VRs]⟩
  ·cases h
 | global g=>simp[opd]at h
def wW{ι:Inj}{T:List (Nat×Option V)}{a:Act}(c:TR ι T a.tmps):∀{b:List Operand} {l:List V},opds (opd T) b=some l->VRs ι l (b.map a.eval)
 | [],_,h=>by simp only[opds,ar]at h;subst h;simp[VRs]
 | x::b,l,h=>by
  simp only[opds]at h;split at h
  ·rename_i v e;split at h
   ·rename_i m d;simp only[ar]at h;subst h;simp only[ge,VRs];exact⟨_,_,rfl,bp c e,wW c d⟩
   ·cases h
  ·cases h
def Cf{ι:Inj}{v:V}{x:Value}(h:VR ι v x)(b:oneV v=true):x.oneCell'=true:=by
 cases v<;>simp only[oneV,bs]at b<;>simp only[VR]at h<;>first
  | (rcases h with⟨_,_,rfl⟩ | ⟨_,_,rfl⟩<;>rfl)
  | (rcases h with⟨_,_,_,_,_,_,rfl⟩ | ⟨_,_,_,rfl⟩<;>rfl)
  | (subst h;rfl)
  | (obtain⟨a,h,_⟩:=h;obtain⟨_,_,_,e⟩:=xY _ a;rw[h,e];rfl)
  | (obtain⟨_,rfl,_⟩:=h;rfl)
  | (obtain⟨_,_,rfl⟩:=h;rfl)
  | (obtain⟨_,_,_,_,_,rfl⟩:=h;rfl)
  | exact h.2
def pM{ι:Inj}{H:List (Nat×Blk)}{nb b:Nat}{w:World}(i:WR ι H nb w){l:List V}(c:look H b=some (.cells l)):
  ∃r a e fr,ι b=some (some r)/\w.heap[r.r]?=some (.cells a e fr)/\VRs ι l a.toList/\NF fr a.size:=by
 obtain⟨r,o,g,d,a,e,fr,rfl,h,f⟩:=(i.blk b _ c (by simp)).real (by simp);exact⟨r,a,e,fr,g,d,h,f⟩
def va{ι:Inj}{H:List (Nat×Blk)}{nb b:Nat}{w:World}(h:WR ι H nb w){k:IntKind}{n:Nat}{l:List Int}(a:look H b=some (.ints k n l)):
  ∃r e fr,ι b=some (some r)/\w.heap[r.r]?=some (.cells (l.map (Value.int k)).toArray e fr)/\l.length=n/\NF fr n:=by
 obtain⟨r,o,f,c,e,fr,rfl,g,d⟩:=(h.blk b _ a (by simp)).real (by simp);exact⟨r,e,fr,f,c,g,d⟩
def jc{ι:Inj}{H:List (Nat×Blk)}{nb b:Nat}{w:World}(h:WR ι H nb w){t:List Lf}{l:List (den t)}(g:look H b=some (.rows t l)):
  (∃r a e fr,ι b=some (some r)/\w.heap[r.r]?=some (.cells a e fr)/\l.length=r.n/\r.n<=r.k/\r.o+r.k*t.length<=a.size/\(a.toList.drop r.o).take (l.length*t.length)=l.flatMap (vals t)/\(r.fz=true\/NF fr a.size))\/
  (ι b=some none/\l=[]):=by
 rcases h.blk b _ g (by simp)with⟨r,o,d,c,a,e,fr,rfl,f⟩ | ⟨d,i,c⟩
 ·exact .inl ⟨r,a,e,fr,d,c,f⟩
 ·injection c with f h4;subst f;exact .inr ⟨d,eq_of_heq h4⟩
def ng{t:List Lf}:∀(l:List (den t)),(l.flatMap (vals t)).length=l.length*t.length
 | []=>by simp
 | x::l=>by simp[qu,jA,ng l,gD,pV]
def KQ{t:List Lf}:∀(l:List (den t)) (j:Nat) (x:den t),l[j]?=some x->((l.flatMap (vals t)).drop (j*t.length)).take t.length=vals t x
 | [],j,x,h=>by simp at h
 | y::l,0,x,h=>by
  simp only[lO,ar]at h;subst h;simp only[Ak,cg,qu];rw[tw (by rw[jA];exact aQ _),iv (by rw[jA];exact aQ _)]
 | y::l,j+1,x,h=>by
  simp only[EU]at h;simp only[qu];rw[show(j+1)*t.length=(vals t y).length+j*t.length by rw[jA,gD];omega,F9,iD (by omega)];simp only[C6,dW];exact KQ l j x h
def Oz{t:List Lf}{l:List (den t)}{f:Array Value}{o:Nat}(h:(f.toList.drop o).take (l.length*t.length)=l.flatMap (vals t)){j:Nat}{x:den t}(a:l[j]?=some x):
  (f.toList.drop (o+j*t.length)).take t.length=vals t x/\j*t.length+t.length<=l.length*t.length:=by
 have c:j<l.length:=by
  rcases aF j l.length with b | b
  ·exact b
  ·rw[gC b]at a;cases a
 have d:j*t.length+t.length<=l.length*t.length:=by
  have:=nE t.length (show j+1<=l.length from c);rw[gD]at this;omega
 refine⟨?_,d⟩;have e:=KQ l j x a;rw[<-h,wh,zB,rQ (by omega),jr]at e;exact e
def nu{t:TypeId}{d:TypeDesc}(hd:P.underlying t=some d)(b:bM P t=false){w:World}{r o:Nat}{a:Array Value}{e:TypeId}{fr:Nat×Nat}
  (h:w.heap[r]?=some (.cells a e fr)) {x:Value} (hx:a[o]?=some x):(Instr.loadAt t (.pointer (some ⟨r,o,none⟩))).run P w=.ok x w:=by
 simp only[Instr.loadAt,Instr.sureAddr,loadVar,aw,aA,ay,jY hd,b,bs,aC,run_load,bC h,hx]
def nB{t:TypeId}{d:TypeDesc}(hd:P.underlying t=some d)(l:bM P t=true){w:World}{r o:Nat}{a:Array Value}{e:TypeId}{fr:Nat×Nat}
  (h:w.heap[r]?=some (.cells a e fr)) (m:o+P.cellsOf t<=a.size):
  (Instr.loadAt t (.pointer (some ⟨r,o,none⟩))).run P w=.ok (.agg ((a.toList.drop o).take (P.cellsOf t)).toArray) w:=by
 obtain⟨i,hi⟩:=mi hd;have b:((a.toList.drop o).take (P.cellsOf t)).length=P.cellsOf t:=by simp;omega
 have hc:=vR (P:=P) w ⟨r,o,none⟩ ((a.toList.drop o).take (P.cellsOf t)) (λj v c=>by
  have f:j<P.cellsOf t:=by
   rcases aF j (P.cellsOf t)with g | g
   ·exact g
   ·rw[gC (by omega)]at c;cases c
  rw[pS f,mX]at c;have:(⟨r,o,none⟩:Addr).add j=⟨r,o+j,none⟩:=by
   unfold Addr.add;split
   ·rename_i k;subst k;rfl
   ·rfl
  rw[this,bC h];simpa using c)
 rw[b]at hc;simp only[Instr.loadAt,Instr.sureAddr,loadVar,aw,aA,ay,jY hd,l,aH,fN hi,hc]
def yG{α:Type}{ι:Inj}{H:List (Nat×Blk)}{nb b o:Nat}{w:World}(m:WR ι H nb w){blk:Blk}(k:look H b=some blk){t:TypeId}{d:TypeDesc}
  (hd:P.underlying t=some d) (n:bM P t=true) {c:V->Option α} {z:α} (h:oN P t blk o c=some z):
  ∃v x r,c v=some z/\ι b=some (some r)/\(Instr.loadAt t (.pointer (some ⟨r.r,o,none⟩))).run P w=.ok x w/\VR ι v x:=by
 unfold oN at h;split at h
 ·split at h
  ·rename_i i;have hle':=aG i;obtain⟨r,l,e,fr,j,g,f,p⟩:=pM m k;have q:=f.length;have hsz':l.size=l.toList.length:=by simp
   exact⟨_,_,r,h,j,nB hd n g (by omega),oW (by simpa using(f.drop o).take _)⟩
  ·cases h
 ·split at h
  ·rename_i a;simp only[aB,iU]at a;obtain⟨rfl,s⟩:=a;obtain⟨r,e,fr,j,g,f,p⟩:=va m k;refine⟨_,_,r,h,j,nB hd n g (by simp;omega),?_⟩;simp only[VR];refine⟨f,?_⟩;rw[Value.agg.injEq];apply mg;simp only[cg];exact iv (by simp;omega)
  ·cases h
 ·cases h
def RL{k:IntKind}{l:List V}{o:Nat}{n:Int}(h:(l.map (tI k))[o]?=some (some n)):l[o]?=some (.i k n):=by
 rw[pg]at h;cases a:l[o]? with
 | none=>rw[a]at h;cases h
 | some v=>
  rw[a]at h;simp only[eO,ar]at h;unfold tI at h;split at h
  ·split at h
   ·rename_i b;rw[kn b];simp only[ar]at h;rw[h]
   ·cases h
  ·cases h
def E5{α:Type}{ι:Inj}{H:List (Nat×Blk)}{nb b o:Nat}{w:World}(p:WR ι H nb w){blk:Blk}(g:look H b=some blk){t:TypeId}
  {c:V->Option α} {z:α} (h:xC P t blk o c=some z):
  ∃v x r,c v=some z/\ι b=some (some r)/\(Instr.loadAt t (.pointer (some ⟨r.r,o,none⟩))).run P w=.ok x w/\VR ι v x:=by
 have one:∀{d:TypeDesc} {l:List V} {v:V},P.underlying t=some d->bM P t=false->look H b=some (.cells l)->l[o]?=some v->c v=some z->
   ∃v x r,c v=some z/\ι b=some (some r)/\(Instr.loadAt t (.pointer (some ⟨r.r,o,none⟩))).run P w=.ok x w/\VR ι v x:=by
  intro d l v hd i g D hc;obtain⟨r,E,e,fr,f,a,u,A⟩:=pM p g;obtain⟨x,hx,s⟩:=u.get D;exact⟨v,x,r,hc,f,nu hd i a (by simpa using hx),s⟩
 unfold xC at h;split at h
 ·rename_i I hd;exact yG p g hd (by simp[bM,hd]) h
 ·rename_i n e hd;exact yG p g hd (by simp[bM,hd]) h
 ·rename_i k hd;have i:bM P t=false:=by simp[bM,hd]
  split at h
  ·split at h
   ·rename_i C j;obtain⟨n,f,a⟩:=av h;exact one hd i g (by rw[sT j];simp[f]) a
   ·obtain⟨q,f,a⟩:=av h;obtain⟨n,rfl,a⟩:=av a;exact one hd i g (RL f) a
  ·rename_i k' n l;obtain⟨m,f,a⟩:=av h;obtain⟨r,e,fr,B,y,G,F⟩:=va p g;exact⟨_,.int k' m,r,a,B,nu hd i y (by simp[f]),by simp[VR]⟩
  ·cases h
 ·rename_i hd;have i:bM P t=false:=by simp[bM,hd]
  split at h
  ·split at h
   ·rename_i C j;obtain⟨n,f,a⟩:=av h;exact one hd i g (by rw[tf j];simp[f]) a
   ·obtain⟨v,f,a⟩:=av h;exact one hd i g f a
  ·cases h
 ·rename_i d f a u A hd;have i:bM P t=false:=by
   simp only[bM,hd];cases d<;>simp_all
  split at h
  ·obtain⟨v,f,a⟩:=av h;exact one hd i g f a
  ·cases h
 ·cases h
def N5{α:Type}{ι:Inj}{w:World}{r o base:Nat}{u:Array Value}{e:TypeId}{fr:Nat×Nat}{l:List V}(B:w.heap[r]?=some (.cells u e fr))
  (A:VRs ι l ((u.toList.drop base).take l.length)) (C:base+l.length<=u.size) {t:TypeId} {c:V->Option α} {z:α} (h:xC P t (.cells l) o c=some z):
  ∃v x,c v=some z/\(Instr.loadAt t (.pointer (some ⟨r,base+o,none⟩))).run P w=.ok x w/\VR ι v x:=by
 have one:∀{d:TypeDesc} {v:V},P.underlying t=some d->bM P t=false->l[o]?=some v->c v=some z->
   ∃v x,c v=some z/\(Instr.loadAt t (.pointer (some ⟨r,base+o,none⟩))).run P w=.ok x w/\VR ι v x:=by
  intro d v hd b y hc;obtain⟨x,hx,m⟩:=A.get y;have p:o<l.length:=by
   rcases aF o l.length with j | j
   ·exact j
   ·rw[gC j]at y;cases y
  rw[pS p,mX]at hx;exact⟨v,x,hc,nu hd b B (by simpa using hx),m⟩
 have i:∀{d:TypeDesc},P.underlying t=some d->bM P t=true->oN P t (.cells l) o c=some z->
   ∃v x,c v=some z/\(Instr.loadAt t (.pointer (some ⟨r,base+o,none⟩))).run P w=.ok x w/\VR ι v x:=by
  intro d hd b h;simp only[oN]at h;split at h
  ·rename_i s;have hle':=aG s;refine⟨_,_,h,nB hd b B (by omega),oW ?_⟩;have:=(A.drop o).take (P.cellsOf t);rw[wh,jr,zB,rQ (by omega)]at this;simpa using this
  ·cases h
 unfold xC at h;split at h
 ·rename_i G hd;exact i hd (by simp[bM,hd]) h
 ·rename_i n e hd;exact i hd (by simp[bM,hd]) h
 ·rename_i k hd;have b:bM P t=false:=by simp[bM,hd]
  simp only at h;split at h
  ·rename_i D g;obtain⟨n,f,a⟩:=av h;exact one hd b (by rw[sT g];simp[f]) a
  ·obtain⟨q,f,a⟩:=av h;obtain⟨n,rfl,a⟩:=av a;exact one hd b (RL f) a
 ·rename_i hd;have b:bM P t=false:=by simp[bM,hd]
  simp only at h;split at h
  ·rename_i D g;obtain⟨n,f,a⟩:=av h;exact one hd b (by rw[tf g];simp[f]) a
  ·obtain⟨v,f,a⟩:=av h;exact one hd b f a
 ·rename_i d f a F E hd;have b:bM P t=false:=by
   simp only[bM,hd];cases d<;>simp_all
  simp only at h;obtain⟨v,f,a⟩:=av h;exact one hd b f a
 ·cases h
def Lf.inV_ok:∀{a:Lf} {v:V} {x:a.den},a.inV v=some x->v=a.toV x
 | .i k,v,x,h=>by
  cases v<;>simp only[Lf.inV]at h<;>try cases h
  split at h
  ·rename_i C;simp only[ar]at h;subst h;rw[kn C];rfl
  ·cases h
 | .bo,v,x,h=>by cases v<;>simp only[Lf.inV]at h<;>cases h;rfl
 | .s,v,x,h=>by cases v<;>simp only[Lf.inV]at h<;>cases h;rfl
def uO:∀{t:List Lf} {l:List V} {x:den t},wP t l=some x->l=cells t x
 | [],[],_,_=>rfl
 | [],_::_,_,h=>by simp[wP]at h
 | [a],[],_,h=>by simp[wP]at h
 | [a],[v],x,h=>by
  simp only[wP]at h;rw[Lf.inV_ok h];rfl
 | [a],_::_::_,_,h=>by simp[wP]at h
 | a::b::t,[],_,h=>by simp[wP]at h
 | a::b::t,v::vs,x,h=>by
  simp only[wP]at h;split at h
  ·rename_i y hy;split at h
   ·rename_i d c;simp only[ar]at h;subst h;rw[Lf.inV_ok hy,uO c];rfl
   ·cases h
  ·cases h
def BF{t:List Lf}:∀{n:Nat} {l:List V} {m:List (den t)},AS t t.length n l=some m->l.length=n*t.length->m.length=n/\l=m.flatMap (cells t)
 | 0,l,m,h,a=>by
  simp only[AS,ar]at h;subst h;exact⟨rfl,by simpa using a⟩
 | n+1,l,m,h,a=>by
  simp only[AS]at h;split at h
  ·rename_i x hx;split at h
   ·rename_i m' b;simp only[ar]at h;subst h;rw[gD]at a;obtain⟨d,c⟩:=BF b (by rw[bj];omega);refine⟨by simp[d],?_⟩;rw[qu,<-uO hx,<-c,tu]
   ·cases h
  ·cases h
def Gy(ι:Inj){t:List Lf}:∀(m:List (den t)) (ys:List Value),VRs ι (m.flatMap (cells t)) ys->ys=m.flatMap (vals t)
 | [],ys,h=>by simpa[VRs]using h
 | x::m,ys,h=>by
  rw[qu]at h ⊢;have b:=h.take t.length;have a:=h.drop t.length;rw[tw (by rw[kw];exact aQ _),iv (by rw[kw];exact aQ _)]at b;rw[F9,iD (by rw[kw];exact aQ _),kw]at a;simp only[Nat.sub_self,cg,dW]at a;rw[<-(mU ι t x _).1 b,<-Gy ι m _ a,tu]
end Go.Abs
