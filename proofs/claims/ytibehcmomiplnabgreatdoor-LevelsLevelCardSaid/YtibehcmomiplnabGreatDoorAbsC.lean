
import Derived.Test.YtibehcmomiplnabGreatDoorAbsB
import Derived.Laws.Entries
import Derived.Laws.Cells
set_option linter.unusedSimpArgs false
set_option linter.unusedVariables false
set_option linter.defProp false
namespace Go.Abs
variable {P:Program}
def pG{t:TypeId}{d:TypeDesc}(h:P.underlying t=some d):∃i,P.info? t=some i:=by
 unfold Program.underlying at h;cases hi:P.info? t with
 | none=>simp[hi]at h
 | some i=>exact⟨i,rfl⟩
def cG{t:TypeId}(h:Nat.blt 0 (P.cellsOf t)=true):∃i,P.info? t=some i:=by
 unfold Program.cellsOf at h;cases hi:P.info? t with
 | none=>simp[hi]at h
 | some i=>exact⟨i,rfl⟩
def ig{t:TypeId}{i:TypeInfo}(h:P.info? t=some i)(w:World):(sizeOf t).run P w=.ok (P.cellsOf t) w:=by
 simp[sizeOf,typeInfo,h,Program.cellsOf]
def lZ{t:TypeId}{d:TypeDesc}(h:P.underlying t=some d)(w:World):(isAgg t).run P w=.ok (cD P t) w:=by
 unfold isAgg cD;rw[h];simp only[ay,bu h,aE];cases d<;>rfl
def FW(ι:Inj){x:Value}{v:V}(h:K7 x=some v):VR ι v x/\x.cells=#[x]/\oneV v=true:=by
 unfold K7 at h;split at h<;>simp_all[Value.cells]
 all_goals (subst h;simp[VR,oneV,Value.cells,Value.oneCell'])
def Dk(ι:Inj):∀{a:List Value} {l:List V},ze a=some l->VRs ι l a
 | [],_,h=>by simp only[ze,aw]at h;subst h;simp[VRs]
 | x::a,l,h=>by
  simp only[ze]at h;split at h
  ·rename_i v c;split at h
   ·rename_i m b;simp only[aw]at h;subst h;simp only[VRs];exact⟨x,a,rfl,(FW ι c).1,Dk ι b⟩
   ·cases h
  ·cases h
def Kv(ι:Inj){x:Value}{v:V}(h:Sl x=some v):VR ι v x:=by
 unfold Sl at h;split at h
 ·split at h
  ·rename_i a;simp only[aw]at h;subst h;simp only[VR];exact⟨_,rfl,Dk ι a⟩
  ·cases h
 ·exact(FW ι h).1
def wB{k:IntKind}:∀{l:List V} {b:List Int},BK k l=some b->l=b.map (V.i k)
 | [],_,h=>by simp only[BK,aw]at h;subst h;rfl
 | v::l,b,h=>by
  unfold BK at h;split at h<;>rename_i a
  ·cases a
  ·injection a with h1 h2;subst h1 h2;split at h
   ·rename_i d;split at h
    ·rename_i m c;simp only[aw]at h;subst h;rw[wB c,mh d];rfl
    ·cases h
   ·cases h
  ·cases h
def wE:∀{l:List V} {b:List (aa)},B5 l=some b->l=b.map V.s
 | [],_,h=>by simp only[B5,aw]at h;subst h;rfl
 | v::l,b,h=>by
  unfold B5 at h;split at h<;>rename_i a
  ·cases a
  ·injection a with h1 h2;subst h1 h2;split at h
   ·rename_i m c;simp only[aw]at h;subst h;rw[wE c];rfl
   ·cases h
  ·cases h
def VRs.of_ints{ι:Inj}{k:IntKind}:∀{C:List Int} {E:List Value},VRs ι (C.map (V.i k)) E->E=C.map (Value.int k)
 | [],_,h=>by simpa[VRs]using h
 | x::C,E,h=>by
  simp only[gW,VRs,VR]at h;obtain⟨y,G,rfl,rfl,F⟩:=h;simp[VRs.of_ints F]
def sj{ι:Inj}{t:TypeId}{l:List V}{a:Array Value}(h:VRs ι l a.toList):VR ι (Hy P t l) (.agg a):=by
 unfold Hy;split
 ·split
  ·rename_i hx;rw[wB hx]at h;simp only[VR,lL];have:=VRs.of_ints h;rw[Value.agg.injEq];apply mO;simpa using this
  ·simp only[VR];exact⟨a,rfl,h⟩
 ·simp only[VR];exact⟨a,rfl,h⟩
def XH{ι:Inj}{t:TypeId}{v:V}{x:Value}(h:VR ι v x):VR ι (norm P t v) x:=by
 cases v<;>simp only[norm]<;>try exact h
 simp only[VR]at h;obtain⟨a,rfl,h⟩:=h;exact sj h
def vI(n:Nat):NF (0,0) n:=by
 intro j _ h;simp at h
def LN{ι:Inj}{q:Rf}{v:V}{x:Value}(h:VR ι v x)(t:TypeId):BR ι q (TA v) (.cells x.cells t):=by
 have one:∀{v:V} {x:Value},VR ι v x->x.cells=#[x]->BR ι q (.cells [v]) (.cells x.cells t):=by
  intro v x h hx;rw[hx];exact⟨_,_,_,rfl,by simp only[VRs];exact⟨x,[],rfl,h,rfl⟩,vI _⟩
 cases v with
 | ag l=>
  simp only[VR]at h;obtain⟨a,rfl,h⟩:=h;exact⟨a,t,(0,0),rfl,h,vI _⟩
 | ai k n l=>
  simp only[VR]at h;obtain⟨b,rfl⟩:=h;exact⟨t,(0,0),rfl,b,vI _⟩
 | _=>
  simp only[TA];refine one h ?_;simp only[VR]at h
  first
   | (rcases h with⟨_,_,rfl⟩ | ⟨_,_,rfl⟩<;>rfl)
   | (rcases h with⟨_,_,_,_,_,_,rfl⟩ | ⟨_,_,_,rfl⟩<;>rfl)
   | (subst h;rfl)
   | (obtain⟨a,h,_⟩:=h;obtain⟨_,_,_,e⟩:=BY _ a;rw[h,e];rfl)
   | (obtain⟨_,rfl,_⟩:=h;rfl)
   | (obtain⟨_,_,rfl⟩:=h;rfl)
   | (obtain⟨_,_,_,_,_,rfl⟩:=h;rfl)
   | exact h.1
def Av(k:IntKind)(l:List Int):∀(n j:Nat),wk k l n j=(List.range n).map λi=>V.i k (l.getD (j+i) 0)
 | 0,_=>rfl
 | n+1,j=>by
  simp only[wk,Av k l n (j+1),List.range_succ_eq_map,gW,vK,dj];congr 1;apply List.map_congr_left;intro i _;simp[iy,qP 1 i]
def F3(k:IntKind){l:List Int}{n:Nat}(h:l.length=n):wk k l n 0=l.map (V.i k):=by
 rw[Av];apply CS;intro i;by_cases hi:i<n
 ·simp[hi,h▸hi,List.getD]
 ·simp[hi,gS (Nat.le_of_not_lt (h▸hi))]
def pH{ι:Inj}{v:V}{x:Value}(h:VR ι v x):VRs ι (cellsOf v) x.cells.toList:=by
 have one:∀{v:V} {x:Value},VR ι v x->x.cells=#[x]->VRs ι [v] x.cells.toList:=by
  intro v x h hx;rw[hx];simp only[VRs];exact⟨x,[],rfl,h,rfl⟩
 cases v with
 | ag l=>
  simp only[VR]at h;obtain⟨a,rfl,h⟩:=h;exact h
 | ai k n l=>
  simp only[VR]at h;obtain⟨b,rfl⟩:=h;simp only[cellsOf,F3 k b,Value.cells];exact VRs.ints k l
 | _=>
  simp only[cellsOf];refine one h ?_;simp only[VR]at h
  first
   | (rcases h with⟨_,_,rfl⟩ | ⟨_,_,rfl⟩<;>rfl)
   | (rcases h with⟨_,_,_,_,_,_,rfl⟩ | ⟨_,_,_,rfl⟩<;>rfl)
   | (subst h;rfl)
   | (obtain⟨a,h,_⟩:=h;obtain⟨_,_,_,e⟩:=BY _ a;rw[h,e];rfl)
   | (obtain⟨_,rfl,_⟩:=h;rfl)
   | (obtain⟨_,_,rfl⟩:=h;rfl)
   | (obtain⟨_,_,_,_,_,rfl⟩:=h;rfl)
   | exact h.1
def bL{ι:Inj}{T:List (Nat×Option V)}{a:Act}(d:TR ι T a.tmps){x:Operand}{v:V}(h:opd T x=some v):VR ι v (a.eval x):=by
 cases x with
 | tmp t=>
  simp only[opd]at h;split at h
  ·rename_i u i;simp only[aw]at h;subst h;obtain⟨y,e,j⟩:=d t u i;simpa[Act.eval,um,e]using j
  ·cases h
 | const c=>exact Kv ι h
 | func f=>
  simp only[opd]at h;split at h
  ·rename_i b;simp only[aw]at h;subst h;simp only[VR,Act.eval];exact⟨#[],(IG b _).symm,by simp[VRs]⟩
  ·cases h
 | global g=>simp[opd]at h
def zu{ι:Inj}{T:List (Nat×Option V)}{a:Act}(c:TR ι T a.tmps):∀{b:List Operand} {l:List V},opds (opd T) b=some l->VRs ι l (b.map a.eval)
 | [],_,h=>by simp only[opds,aw]at h;subst h;simp[VRs]
 | x::b,l,h=>by
  simp only[opds]at h;split at h
  ·rename_i v e;split at h
   ·rename_i m d;simp only[aw]at h;subst h;simp only[gW,VRs];exact⟨_,_,rfl,bL c e,zu c d⟩
   ·cases h
  ·cases h
def Gn{ι:Inj}{v:V}{x:Value}(h:VR ι v x)(a:oneV v=true):x.oneCell'=true:=by
 cases v<;>simp only[oneV,bI]at a<;>simp only[VR]at h<;>first
  | (rcases h with⟨_,_,rfl⟩ | ⟨_,_,rfl⟩<;>rfl)
  | (rcases h with⟨_,_,_,_,_,_,rfl⟩ | ⟨_,_,_,rfl⟩<;>rfl)
  | (subst h;rfl)
  | (obtain⟨b,h,_⟩:=h;obtain⟨_,_,_,e⟩:=BY _ b;rw[h,e];rfl)
  | (obtain⟨_,rfl,_⟩:=h;rfl)
  | (obtain⟨_,_,rfl⟩:=h;rfl)
  | (obtain⟨_,_,_,_,_,rfl⟩:=h;rfl)
  | exact h.2
def uh{ι:Inj}{H:List (Nat×Blk)}{nb b:Nat}{w:World}(h:WR ι H nb w){l:List V}(d:look H b=some (.cells l)):
  ∃r a e fr,ι b=some (some r)/\w.heap[r.r]?=some (.cells a e fr)/\VRs ι l a.toList/\NF fr a.size:=by
 obtain⟨r,o,g,i,a,e,fr,rfl,f,c⟩:=(h.blk b _ d (by simp)).real (by simp);exact⟨r,a,e,fr,g,i,f,c⟩
def yD{ι:Inj}{H:List (Nat×Blk)}{nb b:Nat}{w:World}(g:WR ι H nb w){k:IntKind}{n:Nat}{l:List Int}(c:look H b=some (.ints k n l)):
  ∃r e fr,ι b=some (some r)/\w.heap[r.r]?=some (.cells (l.map (Value.int k)).toArray e fr)/\l.length=n/\NF fr n:=by
 obtain⟨r,o,f,h,e,fr,rfl,d,a⟩:=(g.blk b _ c (by simp)).real (by simp);exact⟨r,e,fr,f,h,d,a⟩
def kM{ι:Inj}{H:List (Nat×Blk)}{nb b:Nat}{w:World}(h:WR ι H nb w){t:List Lf}{l:List (den t)}(g:look H b=some (.rows t l)):
  (∃r a e fr,ι b=some (some r)/\w.heap[r.r]?=some (.cells a e fr)/\l.length=r.n/\r.n<=r.k/\r.o+r.k*t.length<=a.size/\(a.toList.drop r.o).take (l.length*t.length)=l.flatMap (vals t)/\(r.fz=true\/NF fr a.size))\/
  (ι b=some none/\l=[]):=by
 rcases h.blk b _ g (by simp)with⟨r,o,d,f,a,e,fr,rfl,c⟩ | ⟨d,i,f⟩
 ·exact .inl ⟨r,a,e,fr,d,f,c⟩
 ·injection f with c h4;subst c;exact .inr ⟨d,eq_of_heq h4⟩
def qI{t:List Lf}:∀(l:List (den t)),(l.flatMap (vals t)).length=l.length*t.length
 | []=>by simp
 | x::l=>by simp[pV,iK,qI l,iV,qP]
def QE{t:List Lf}:∀(l:List (den t)) (j:Nat) (x:den t),l[j]?=some x->((l.flatMap (vals t)).drop (j*t.length)).take t.length=vals t x
 | [],j,x,h=>by simp at h
 | y::l,0,x,h=>by
  simp only[mV,aw]at h;subst h;simp only[Ee,cM,pV];rw[xA (by rw[iK];exact bi _),kr (by rw[iK];exact bi _)]
 | y::l,j+1,x,h=>by
  simp only[K9]at h;simp only[pV];rw[show(j+1)*t.length=(vals t y).length+j*t.length by rw[iK,iV];omega,Lm,kW (by omega)];simp only[IS,eo];exact QE l j x h
def U2{t:List Lf}{l:List (den t)}{f:Array Value}{o:Nat}(h:(f.toList.drop o).take (l.length*t.length)=l.flatMap (vals t)){j:Nat}{x:den t}(b:l[j]?=some x):
  (f.toList.drop (o+j*t.length)).take t.length=vals t x/\j*t.length+t.length<=l.length*t.length:=by
 have d:j<l.length:=by
  rcases aN j l.length with a | a
  ·exact a
  ·rw[gS a]at b;cases b
 have c:j*t.length+t.length<=l.length*t.length:=by
  have:=qX t.length (show j+1<=l.length from d);rw[iV]at this;omega
 refine⟨?_,c⟩;have e:=QE l j x b;rw[<-h,Bi,D7,vM (by omega),km]at e;exact e
def qR{t:TypeId}{d:TypeDesc}(c:P.underlying t=some d)(b:cD P t=false){w:World}{r o:Nat}{a:Array Value}{e:TypeId}{fr:Nat×Nat}
  (h:w.heap[r]?=some (.cells a e fr)) {x:Value} (hx:a[o]?=some x):(Instr.loadAt t (.pointer (some ⟨r,o,none⟩))).run P w=.ok x w:=by
 simp only[Instr.loadAt,Instr.sureAddr,loadVar,ay,aH,aE,lZ c,b,bI,aF,run_load,bB h,hx]
def qZ{t:TypeId}{d:TypeDesc}(k:P.underlying t=some d)(m:cD P t=true){w:World}{r o:Nat}{b:Array Value}{e:TypeId}{fr:Nat×Nat}
  (h:w.heap[r]?=some (.cells b e fr)) (n:o+P.cellsOf t<=b.size):
  (Instr.loadAt t (.pointer (some ⟨r,o,none⟩))).run P w=.ok (.agg ((b.toList.drop o).take (P.cellsOf t)).toArray) w:=by
 obtain⟨i,hi⟩:=pG k;have a:((b.toList.drop o).take (P.cellsOf t)).length=P.cellsOf t:=by simp;omega
 have hc:=AD (P:=P) w ⟨r,o,none⟩ ((b.toList.drop o).take (P.cellsOf t)) (λj v c=>by
  have f:j<P.cellsOf t:=by
   rcases aN j (P.cellsOf t)with g | g
   ·exact g
   ·rw[gS (by omega)]at c;cases c
  rw[m7 f,mQ]at c;have:(⟨r,o,none⟩:Addr).add j=⟨r,o+j,none⟩:=by
   unfold Addr.add;split
   ·rename_i l;subst l;rfl
   ·rfl
  rw[this,bB h];simpa using c)
 rw[a]at hc;simp only[Instr.loadAt,Instr.sureAddr,loadVar,ay,aH,aE,lZ k,m,aS,ig hi,hc]
def CX{α:Type}{ι:Inj}{H:List (Nat×Blk)}{nb b o:Nat}{w:World}(n:WR ι H nb w){blk:Blk}(k:look H b=some blk){t:TypeId}{d:TypeDesc}
  (p:P.underlying t=some d) (m:cD P t=true) {c:V->Option α} {z:α} (h:sg P t blk o c=some z):
  ∃v x r,c v=some z/\ι b=some (some r)/\(Instr.loadAt t (.pointer (some ⟨r.r,o,none⟩))).run P w=.ok x w/\VR ι v x:=by
 unfold sg at h;split at h
 ·split at h
  ·rename_i j;have hle':=aR j;obtain⟨r,l,e,fr,g,i,f,u⟩:=uh n k;have s:=f.length;have hsz':l.size=l.toList.length:=by simp
   exact⟨_,_,r,h,g,qZ p m i (by omega),sj (by simpa using(f.drop o).take _)⟩
  ·cases h
 ·split at h
  ·rename_i a;simp only[aD,kx]at a;obtain⟨rfl,q⟩:=a;obtain⟨r,e,fr,g,i,f,u⟩:=yD n k;refine⟨_,_,r,h,g,qZ p m i (by simp;omega),?_⟩;simp only[VR];refine⟨f,?_⟩;rw[Value.agg.injEq];apply mO;simp only[cM];exact kr (by simp;omega)
  ·cases h
 ·cases h
def abI{k:IntKind}{l:List V}{o:Nat}{n:Int}(h:(l.map (tI k))[o]?=some (some n)):l[o]?=some (.i k n):=by
 rw[nV]at h;cases a:l[o]? with
 | none=>rw[a]at h;cases h
 | some v=>
  rw[a]at h;simp only[fQ,aw]at h;unfold tI at h;split at h
  ·split at h
   ·rename_i b;rw[mh b];simp only[aw]at h;rw[h]
   ·cases h
  ·cases h
def KE{α:Type}{ι:Inj}{H:List (Nat×Blk)}{nb b o:Nat}{w:World}(s:WR ι H nb w){blk:Blk}(i:look H b=some blk){t:TypeId}
  {c:V->Option α} {z:α} (h:BC P t blk o c=some z):
  ∃v x r,c v=some z/\ι b=some (some r)/\(Instr.loadAt t (.pointer (some ⟨r.r,o,none⟩))).run P w=.ok x w/\VR ι v x:=by
 have one:∀{d:TypeDesc} {l:List V} {v:V},P.underlying t=some d->cD P t=false->look H b=some (.cells l)->l[o]?=some v->c v=some z->
   ∃v x r,c v=some z/\ι b=some (some r)/\(Instr.loadAt t (.pointer (some ⟨r.r,o,none⟩))).run P w=.ok x w/\VR ι v x:=by
  intro d l v a j i B hc;obtain⟨r,J,e,fr,g,f,y,A⟩:=uh s i;obtain⟨x,hx,u⟩:=y.get B;exact⟨v,x,r,hc,g,qR a j f (by simpa using hx),u⟩
 unfold BC at h;split at h
 ·rename_i I a;exact CX s i a (by simp[cD,a]) h
 ·rename_i n e a;exact CX s i a (by simp[cD,a]) h
 ·rename_i k a;have j:cD P t=false:=by simp[cD,a]
  split at h
  ·split at h
   ·rename_i E p;obtain⟨n,g,f⟩:=ax h;exact one a j i (by rw[wB p];simp[g]) f
   ·obtain⟨q,g,f⟩:=ax h;obtain⟨n,rfl,f⟩:=ax f;exact one a j i (abI g) f
  ·rename_i k' n l;obtain⟨m,g,f⟩:=ax h;obtain⟨r,e,fr,D,C,F,G⟩:=yD s i;exact⟨_,.int k' m,r,f,D,qR a j C (by simp[g]),by simp[VR]⟩
  ·cases h
 ·rename_i a;have j:cD P t=false:=by simp[cD,a]
  split at h
  ·split at h
   ·rename_i E p;obtain⟨n,g,f⟩:=ax h;exact one a j i (by rw[wE p];simp[g]) f
   ·obtain⟨v,g,f⟩:=ax h;exact one a j i g f
  ·cases h
 ·rename_i d g f y A a;have j:cD P t=false:=by
   simp only[cD,a];cases d<;>simp_all
  split at h
  ·obtain⟨v,g,f⟩:=ax h;exact one a j i g f
  ·cases h
 ·cases h
def RO{α:Type}{ι:Inj}{w:World}{r o base:Nat}{y:Array Value}{e:TypeId}{fr:Nat×Nat}{l:List V}(C:w.heap[r]?=some (.cells y e fr))
  (B:VRs ι l ((y.toList.drop base).take l.length)) (D:base+l.length<=y.size) {t:TypeId} {c:V->Option α} {z:α} (h:BC P t (.cells l) o c=some z):
  ∃v x,c v=some z/\(Instr.loadAt t (.pointer (some ⟨r,base+o,none⟩))).run P w=.ok x w/\VR ι v x:=by
 have one:∀{d:TypeDesc} {v:V},P.underlying t=some d->cD P t=false->l[o]?=some v->c v=some z->
   ∃v x,c v=some z/\(Instr.loadAt t (.pointer (some ⟨r,base+o,none⟩))).run P w=.ok x w/\VR ι v x:=by
  intro d v a f p hc;obtain⟨x,hx,m⟩:=B.get p;have u:o<l.length:=by
   rcases aN o l.length with A | A
   ·exact A
   ·rw[gS A]at p;cases p
  rw[m7 u,mQ]at hx;exact⟨v,x,hc,qR a f C (by simpa using hx),m⟩
 have j:∀{d:TypeDesc},P.underlying t=some d->cD P t=true->sg P t (.cells l) o c=some z->
   ∃v x,c v=some z/\(Instr.loadAt t (.pointer (some ⟨r,base+o,none⟩))).run P w=.ok x w/\VR ι v x:=by
  intro d a f h;simp only[sg]at h;split at h
  ·rename_i s;have hle':=aR s;refine⟨_,_,h,qZ a f C (by omega),sj ?_⟩;have:=(B.drop o).take (P.cellsOf t);rw[Bi,km,D7,vM (by omega)]at this;simpa using this
  ·cases h
 unfold BC at h;split at h
 ·rename_i H a;exact j a (by simp[cD,a]) h
 ·rename_i n e a;exact j a (by simp[cD,a]) h
 ·rename_i k a;have f:cD P t=false:=by simp[cD,a]
  simp only at h;split at h
  ·rename_i E i;obtain⟨n,g,b⟩:=ax h;exact one a f (by rw[wB i];simp[g]) b
  ·obtain⟨q,g,b⟩:=ax h;obtain⟨n,rfl,b⟩:=ax b;exact one a f (abI g) b
 ·rename_i a;have f:cD P t=false:=by simp[cD,a]
  simp only at h;split at h
  ·rename_i E i;obtain⟨n,g,b⟩:=ax h;exact one a f (by rw[wE i];simp[g]) b
  ·obtain⟨v,g,b⟩:=ax h;exact one a f g b
 ·rename_i d g b G F a;have f:cD P t=false:=by
   simp only[cD,a];cases d<;>simp_all
  simp only at h;obtain⟨v,g,b⟩:=ax h;exact one a f g b
 ·cases h
def Lf.inV_ok:∀{a:Lf} {v:V} {x:a.den},a.inV v=some x->v=a.toV x
 | .i k,v,x,h=>by
  cases v<;>simp only[Lf.inV]at h<;>try cases h
  split at h
  ·rename_i C;simp only[aw]at h;subst h;rw[mh C];rfl
  ·cases h
 | .bo,v,x,h=>by cases v<;>simp only[Lf.inV]at h<;>cases h;rfl
 | .s,v,x,h=>by cases v<;>simp only[Lf.inV]at h<;>cases h;rfl
def yI:∀{t:List Lf} {l:List V} {x:den t},zk t l=some x->l=cells t x
 | [],[],_,_=>rfl
 | [],_::_,_,h=>by simp[zk]at h
 | [a],[],_,h=>by simp[zk]at h
 | [a],[v],x,h=>by
  simp only[zk]at h;rw[Lf.inV_ok h];rfl
 | [a],_::_::_,_,h=>by simp[zk]at h
 | a::b::t,[],_,h=>by simp[zk]at h
 | a::b::t,v::vs,x,h=>by
  simp only[zk]at h;split at h
  ·rename_i y hy;split at h
   ·rename_i d c;simp only[aw]at h;subst h;rw[Lf.inV_ok hy,yI c];rfl
   ·cases h
  ·cases h
def fS9{t:List Lf}:∀{n:Nat} {l:List V} {m:List (den t)},GY t t.length n l=some m->l.length=n*t.length->m.length=n/\l=m.flatMap (cells t)
 | 0,l,m,h,a=>by
  simp only[GY,aw]at h;subst h;exact⟨rfl,by simpa using a⟩
 | n+1,l,m,h,a=>by
  simp only[GY]at h;split at h
  ·rename_i x hx;split at h
   ·rename_i m' c;simp only[aw]at h;subst h;rw[iV]at a;obtain⟨d,b⟩:=fS9 c (by rw[cg];omega);refine⟨by simp[d],?_⟩;rw[pV,<-yI hx,<-b,vJ]
   ·cases h
  ·cases h
def LS(ι:Inj){t:List Lf}:∀(m:List (den t)) (a:List Value),VRs ι (m.flatMap (cells t)) a->a=m.flatMap (vals t)
 | [],a,h=>by simpa[VRs]using h
 | x::m,a,h=>by
  rw[pV]at h ⊢;have c:=h.take t.length;have b:=h.drop t.length;rw[xA (by rw[mu];exact bi _),kr (by rw[mu];exact bi _)]at c;rw[Lm,kW (by rw[mu];exact bi _),mu]at b;simp only[Ep,cM,eo]at b;rw[<-(qD ι t x _).1 c,<-LS ι m _ b,vJ]
end Go.Abs
