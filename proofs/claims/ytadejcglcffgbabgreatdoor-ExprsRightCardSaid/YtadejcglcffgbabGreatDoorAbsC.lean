
import Derived.Test.YtadejcglcffgbabGreatDoorAbsB
import Derived.Laws.Entries
import Derived.Laws.Cells
set_option linter.unusedSimpArgs false
set_option linter.unusedVariables false
set_option linter.defProp false
namespace Go.Abs
variable {P:Program}
def kz{t:TypeId}{d:TypeDesc}(h:P.underlying t=some d):∃i,P.info? t=some i:=by
 unfold Program.underlying at h;cases hi:P.info? t with
 | none=>simp[hi]at h
 | some i=>exact⟨i,rfl⟩
def bC{t:TypeId}(h:Nat.blt 0 (P.cellsOf t)=true):∃i,P.info? t=some i:=by
 unfold Program.cellsOf at h;cases hi:P.info? t with
 | none=>simp[hi]at h
 | some i=>exact⟨i,rfl⟩
def ei{t:TypeId}{i:TypeInfo}(h:P.info? t=some i)(w:World):(sizeOf t).run P w=.ok (P.cellsOf t) w:=by
 simp[sizeOf,typeInfo,h,Program.cellsOf]
def iw{t:TypeId}{d:TypeDesc}(h:P.underlying t=some d)(w:World):(isAgg t).run P w=.ok (bA P t) w:=by
 unfold isAgg bA;rw[h];simp only[ax,aR h,az];cases d<;>rfl
def xK(ι:Inj){x:Value}{v:V}(h:BN x=some v):VR ι v x/\x.cells=#[x]/\oneV v=true:=by
 unfold BN at h;split at h<;>simp_all[Value.cells]
 all_goals (subst h;simp[VR,oneV,Value.cells,Value.oneCell'])
def vd(ι:Inj):∀{a:List Value} {l:List V},uk a=some l->VRs ι l a
 | [],_,h=>by simp only[uk,aq]at h;subst h;simp[VRs]
 | x::a,l,h=>by
  simp only[uk]at h;split at h
  ·rename_i v b;split at h
   ·rename_i m c;simp only[aq]at h;subst h;simp only[VRs];exact⟨x,a,rfl,(xK ι b).1,vd ι c⟩
   ·cases h
  ·cases h
def Cb(ι:Inj){x:Value}{v:V}(h:Hk x=some v):VR ι v x:=by
 unfold Hk at h;split at h
 ·split at h
  ·rename_i a;simp only[aq]at h;subst h;simp only[VR];exact⟨_,rfl,vd ι a⟩
  ·cases h
 ·exact(xK ι h).1
def pE{k:IntKind}:∀{l:List V} {b:List Int},uJ k l=some b->l=b.map (V.i k)
 | [],_,h=>by simp only[uJ,aq]at h;subst h;rfl
 | v::l,b,h=>by
  unfold uJ at h;split at h<;>rename_i a
  ·cases a
  ·injection a with h1 h2;subst h1 h2;split at h
   ·rename_i d;split at h
    ·rename_i m c;simp only[aq]at h;subst h;rw[pE c,iL d];rfl
    ·cases h
   ·cases h
  ·cases h
def qd:∀{l:List V} {b:List (aa)},uZ l=some b->l=b.map V.s
 | [],_,h=>by simp only[uZ,aq]at h;subst h;rfl
 | v::l,b,h=>by
  unfold uZ at h;split at h<;>rename_i a
  ·cases a
  ·injection a with h1 h2;subst h1 h2;split at h
   ·rename_i m c;simp only[aq]at h;subst h;rw[qd c];rfl
   ·cases h
  ·cases h
def VRs.of_ints{ι:Inj}{k:IntKind}:∀{C:List Int} {A:List Value},VRs ι (C.map (V.i k)) A->A=C.map (Value.int k)
 | [],_,h=>by simpa[VRs]using h
 | x::C,A,h=>by
  simp only[fb,VRs,VR]at h;obtain⟨y,F,rfl,rfl,E⟩:=h;simp[VRs.of_ints E]
def l9{ι:Inj}{t:TypeId}{l:List V}{a:Array Value}(h:VRs ι l a.toList):VR ι (xL P t l) (.agg a):=by
 unfold xL;split
 ·split
  ·rename_i hx;rw[pE hx]at h;simp only[VR,ie];have:=VRs.of_ints h;rw[Value.agg.injEq];apply kH;simpa using this
  ·simp only[VR];exact⟨a,rfl,h⟩
 ·simp only[VR];exact⟨a,rfl,h⟩
def Ko{ι:Inj}{t:TypeId}{v:V}{x:Value}(h:VR ι v x):VR ι (norm P t v) x:=by
 cases v<;>simp only[norm]<;>try exact h
 simp only[VR]at h;obtain⟨a,rfl,h⟩:=h;exact l9 h
def pa(n:Nat):NF (0,0) n:=by
 intro j _ h;simp at h
def AH{ι:Inj}{q:Rf}{v:V}{x:Value}(h:VR ι v x)(t:TypeId):BR ι q (Iz v) (.cells x.cells t):=by
 have one:∀{v:V} {x:Value},VR ι v x->x.cells=#[x]->BR ι q (.cells [v]) (.cells x.cells t):=by
  intro v x h hx;rw[hx];exact⟨_,_,_,rfl,by simp only[VRs];exact⟨x,[],rfl,h,rfl⟩,pa _⟩
 cases v with
 | ag l=>
  simp only[VR]at h;obtain⟨a,rfl,h⟩:=h;exact⟨a,t,(0,0),rfl,h,pa _⟩
 | ai k n l=>
  simp only[VR]at h;obtain⟨b,rfl⟩:=h;exact⟨t,(0,0),rfl,b,pa _⟩
 | _=>
  simp only[Iz];refine one h ?_;simp only[VR]at h
  first
   | (rcases h with⟨_,_,rfl⟩ | ⟨_,_,rfl⟩<;>rfl)
   | (rcases h with⟨_,_,_,_,_,_,rfl⟩ | ⟨_,_,_,rfl⟩<;>rfl)
   | (subst h;rfl)
   | (obtain⟨a,h,_⟩:=h;obtain⟨_,_,_,e⟩:=vt _ a;rw[h,e];rfl)
   | (obtain⟨_,rfl,_⟩:=h;rfl)
   | (obtain⟨_,_,rfl⟩:=h;rfl)
   | (obtain⟨_,_,_,_,_,rfl⟩:=h;rfl)
   | exact h.1
def so(k:IntKind)(l:List Int):∀(n j:Nat),pj k l n j=(List.range n).map λi=>V.i k (l.getD (j+i) 0)
 | 0,_=>rfl
 | n+1,j=>by
  simp only[pj,so k l n (j+1),List.range_succ_eq_map,fb,sA,eJ];congr 1;apply List.map_congr_left;intro i _;simp[gh,oN 1 i]
def yN(k:IntKind){l:List Int}{n:Nat}(h:l.length=n):pj k l n 0=l.map (V.i k):=by
 rw[so];apply vh;intro i;by_cases hi:i<n
 ·simp[hi,h▸hi,List.getD]
 ·simp[hi,dX (Nat.le_of_not_lt (h▸hi))]
def kB{ι:Inj}{v:V}{x:Value}(h:VR ι v x):VRs ι (cellsOf v) x.cells.toList:=by
 have one:∀{v:V} {x:Value},VR ι v x->x.cells=#[x]->VRs ι [v] x.cells.toList:=by
  intro v x h hx;rw[hx];simp only[VRs];exact⟨x,[],rfl,h,rfl⟩
 cases v with
 | ag l=>
  simp only[VR]at h;obtain⟨a,rfl,h⟩:=h;exact h
 | ai k n l=>
  simp only[VR]at h;obtain⟨b,rfl⟩:=h;simp only[cellsOf,yN k b,Value.cells];exact VRs.ints k l
 | _=>
  simp only[cellsOf];refine one h ?_;simp only[VR]at h
  first
   | (rcases h with⟨_,_,rfl⟩ | ⟨_,_,rfl⟩<;>rfl)
   | (rcases h with⟨_,_,_,_,_,_,rfl⟩ | ⟨_,_,_,rfl⟩<;>rfl)
   | (subst h;rfl)
   | (obtain⟨a,h,_⟩:=h;obtain⟨_,_,_,e⟩:=vt _ a;rw[h,e];rfl)
   | (obtain⟨_,rfl,_⟩:=h;rfl)
   | (obtain⟨_,_,rfl⟩:=h;rfl)
   | (obtain⟨_,_,_,_,_,rfl⟩:=h;rfl)
   | exact h.1
def aZ{ι:Inj}{T:List (Nat×Option V)}{a:Act}(j:TR ι T a.tmps){x:Operand}{v:V}(h:opd T x=some v):VR ι v (a.eval x):=by
 cases x with
 | tmp t=>
  simp only[opd]at h;split at h
  ·rename_i u e;simp only[aq]at h;subst h;obtain⟨y,i,d⟩:=j t u e;simpa[Act.eval,nD,i]using d
  ·cases h
 | const c=>exact Cb ι h
 | func f=>
  simp only[opd]at h;split at h
  ·rename_i b;simp only[aq]at h;subst h;simp only[VR,Act.eval];exact⟨#[],(GX b _).symm,by simp[VRs]⟩
  ·cases h
 | global g=>simp[opd]at h
def sS{ι:Inj}{T:List (Nat×Option V)}{a:Act}(c:TR ι T a.tmps):∀{b:List Operand} {l:List V},opds (opd T) b=some l->VRs ι l (b.map a.eval)
 | [],_,h=>by simp only[opds,aq]at h;subst h;simp[VRs]
 | x::b,l,h=>by
  simp only[opds]at h;split at h
  ·rename_i v e;split at h
   ·rename_i m d;simp only[aq]at h;subst h;simp only[fb,VRs];exact⟨_,_,rfl,aZ c e,sS c d⟩
   ·cases h
  ·cases h
def xe{ι:Inj}{v:V}{x:Value}(h:VR ι v x)(b:oneV v=true):x.oneCell'=true:=by
 cases v<;>simp only[oneV,cj]at b<;>simp only[VR]at h<;>first
  | (rcases h with⟨_,_,rfl⟩ | ⟨_,_,rfl⟩<;>rfl)
  | (rcases h with⟨_,_,_,_,_,_,rfl⟩ | ⟨_,_,_,rfl⟩<;>rfl)
  | (subst h;rfl)
  | (obtain⟨a,h,_⟩:=h;obtain⟨_,_,_,e⟩:=vt _ a;rw[h,e];rfl)
  | (obtain⟨_,rfl,_⟩:=h;rfl)
  | (obtain⟨_,_,rfl⟩:=h;rfl)
  | (obtain⟨_,_,_,_,_,rfl⟩:=h;rfl)
  | exact h.2
def m7{ι:Inj}{H:List (Nat×Blk)}{nb b:Nat}{w:World}(f:WR ι H nb w){l:List V}(g:look H b=some (.cells l)):
  ∃r a e fr,ι b=some (some r)/\w.heap[r.r]?=some (.cells a e fr)/\VRs ι l a.toList/\NF fr a.size:=by
 obtain⟨r,o,i,h,a,e,fr,rfl,c,d⟩:=(f.blk b _ g (by simp)).real (by simp);exact⟨r,a,e,fr,i,h,c,d⟩
def rr{ι:Inj}{H:List (Nat×Blk)}{nb b:Nat}{w:World}(d:WR ι H nb w){k:IntKind}{n:Nat}{l:List Int}(f:look H b=some (.ints k n l)):
  ∃r e fr,ι b=some (some r)/\w.heap[r.r]?=some (.cells (l.map (Value.int k)).toArray e fr)/\l.length=n/\NF fr n:=by
 obtain⟨r,o,h,g,e,fr,rfl,a,c⟩:=(d.blk b _ f (by simp)).real (by simp);exact⟨r,e,fr,h,g,a,c⟩
def gD{ι:Inj}{H:List (Nat×Blk)}{nb b:Nat}{w:World}(g:WR ι H nb w){t:List Lf}{l:List (den t)}(h:look H b=some (.rows t l)):
  (∃r a e fr,ι b=some (some r)/\w.heap[r.r]?=some (.cells a e fr)/\l.length=r.n/\r.n<=r.k/\r.o+r.k*t.length<=a.size/\(a.toList.drop r.o).take (l.length*t.length)=l.flatMap (vals t)/\(r.fz=true\/NF fr a.size))\/
  (ι b=some none/\l=[]):=by
 rcases g.blk b _ h (by simp)with⟨r,o,f,d,a,e,fr,rfl,c⟩ | ⟨f,i,d⟩
 ·exact .inl ⟨r,a,e,fr,f,d,c⟩
 ·injection d with c h4;subst c;exact .inr ⟨f,eq_of_heq h4⟩
def ls{t:List Lf}:∀(l:List (den t)),(l.flatMap (vals t)).length=l.length*t.length
 | []=>by simp
 | x::l=>by simp[jY,eX,ls l,fh,oN]
def G2{t:List Lf}:∀(l:List (den t)) (j:Nat) (x:den t),l[j]?=some x->((l.flatMap (vals t)).drop (j*t.length)).take t.length=vals t x
 | [],j,x,h=>by simp at h
 | y::l,0,x,h=>by
  simp only[iE,aq]at h;subst h;simp only[Nat.zero_mul,gk,jY];rw[qG (by rw[eX];exact aV _),gg (by rw[eX];exact aV _)]
 | y::l,j+1,x,h=>by
  simp only[An]at h;simp only[jY];rw[show(j+1)*t.length=(vals t y).length+j*t.length by rw[eX,fh];omega,BI,oi (by omega)];simp only[zo,gP];exact G2 l j x h
def JJ{t:List Lf}{l:List (den t)}{f:Array Value}{o:Nat}(h:(f.toList.drop o).take (l.length*t.length)=l.flatMap (vals t)){j:Nat}{x:den t}(d:l[j]?=some x):
  (f.toList.drop (o+j*t.length)).take t.length=vals t x/\j*t.length+t.length<=l.length*t.length:=by
 have c:j<l.length:=by
  rcases aI j l.length with a | a
  ·exact a
  ·rw[dX a]at d;cases d
 have b:j*t.length+t.length<=l.length*t.length:=by
  have:=lz t.length (show j+1<=l.length from c);rw[fh]at this;omega
 refine⟨?_,b⟩;have e:=G2 l j x d;rw[<-h,yL,wY,o7 (by omega),uT]at e;exact e
def lG{t:TypeId}{d:TypeDesc}(c:P.underlying t=some d)(b:bA P t=false){w:World}{r o:Nat}{a:Array Value}{e:TypeId}{fr:Nat×Nat}
  (h:w.heap[r]?=some (.cells a e fr)) {x:Value} (hx:a[o]?=some x):(Instr.loadAt t (.pointer (some ⟨r,o,none⟩))).run P w=.ok x w:=by
 simp only[Instr.loadAt,Instr.sureAddr,loadVar,ax,aA,az,iw c,b,cj,aG,run_load,bB h,hx]
def lI{t:TypeId}{d:TypeDesc}(k:P.underlying t=some d)(m:bA P t=true){w:World}{r o:Nat}{b:Array Value}{e:TypeId}{fr:Nat×Nat}
  (h:w.heap[r]?=some (.cells b e fr)) (n:o+P.cellsOf t<=b.size):
  (Instr.loadAt t (.pointer (some ⟨r,o,none⟩))).run P w=.ok (.agg ((b.toList.drop o).take (P.cellsOf t)).toArray) w:=by
 obtain⟨i,hi⟩:=kz k;have a:((b.toList.drop o).take (P.cellsOf t)).length=P.cellsOf t:=by simp;omega
 have hc:=sM (P:=P) w ⟨r,o,none⟩ ((b.toList.drop o).take (P.cellsOf t)) (λj v c=>by
  have f:j<P.cellsOf t:=by
   rcases aI j (P.cellsOf t)with g | g
   ·exact g
   ·rw[dX (by omega)]at c;cases c
  rw[mR f,jK]at c;have:(⟨r,o,none⟩:Addr).add j=⟨r,o+j,none⟩:=by
   unfold Addr.add;split
   ·rename_i l;subst l;rfl
   ·rfl
  rw[this,bB h];simpa using c)
 rw[a]at hc;simp only[Instr.loadAt,Instr.sureAddr,loadVar,ax,aA,az,iw k,m,bc,ei hi,hc]
def uz{α:Type}{ι:Inj}{H:List (Nat×Blk)}{nb b o:Nat}{w:World}(k:WR ι H nb w){blk:Blk}(l:look H b=some blk){t:TypeId}{d:TypeDesc}
  (m:P.underlying t=some d) (n:bA P t=true) {c:V->Option α} {z:α} (h:mC P t blk o c=some z):
  ∃v x r,c v=some z/\ι b=some (some r)/\(Instr.loadAt t (.pointer (some ⟨r.r,o,none⟩))).run P w=.ok x w/\VR ι v x:=by
 unfold mC at h;split at h
 ·split at h
  ·rename_i i;have hle':=aJ i;obtain⟨r,p,e,fr,j,g,f,q⟩:=m7 k l;have s:=f.length;have hsz':p.size=p.toList.length:=by simp
   exact⟨_,_,r,h,j,lI m n g (by omega),l9 (by simpa using(f.drop o).take _)⟩
  ·cases h
 ·split at h
  ·rename_i a;simp only[aC,iR]at a;obtain⟨rfl,u⟩:=a;obtain⟨r,e,fr,j,g,f,q⟩:=rr k l;refine⟨_,_,r,h,j,lI m n g (by simp;omega),?_⟩;simp only[VR];refine⟨f,?_⟩;rw[Value.agg.injEq];apply kH;simp only[gk];exact gg (by simp;omega)
  ·cases h
 ·cases h
def MK{k:IntKind}{l:List V}{o:Nat}{n:Int}(h:(l.map (tI k))[o]?=some (some n)):l[o]?=some (.i k n):=by
 rw[om]at h;cases a:l[o]? with
 | none=>rw[a]at h;cases h
 | some v=>
  rw[a]at h;simp only[ek,aq]at h;unfold tI at h;split at h
  ·split at h
   ·rename_i b;rw[iL b];simp only[aq]at h;rw[h]
   ·cases h
  ·cases h
def B8{α:Type}{ι:Inj}{H:List (Nat×Blk)}{nb b o:Nat}{w:World}(s:WR ι H nb w){blk:Blk}(i:look H b=some blk){t:TypeId}
  {c:V->Option α} {z:α} (h:uu P t blk o c=some z):
  ∃v x r,c v=some z/\ι b=some (some r)/\(Instr.loadAt t (.pointer (some ⟨r.r,o,none⟩))).run P w=.ok x w/\VR ι v x:=by
 have one:∀{d:TypeDesc} {l:List V} {v:V},P.underlying t=some d->bA P t=false->look H b=some (.cells l)->l[o]?=some v->c v=some z->
   ∃v x r,c v=some z/\ι b=some (some r)/\(Instr.loadAt t (.pointer (some ⟨r.r,o,none⟩))).run P w=.ok x w/\VR ι v x:=by
  intro d l v a j i D hc;obtain⟨r,I,e,fr,g,f,y,C⟩:=m7 s i;obtain⟨x,hx,u⟩:=y.get D;exact⟨v,x,r,hc,g,lG a j f (by simpa using hx),u⟩
 unfold uu at h;split at h
 ·rename_i J a;exact uz s i a (by simp[bA,a]) h
 ·rename_i n e a;exact uz s i a (by simp[bA,a]) h
 ·rename_i k a;have j:bA P t=false:=by simp[bA,a]
  split at h
  ·split at h
   ·rename_i A p;obtain⟨n,g,f⟩:=av h;exact one a j i (by rw[pE p];simp[g]) f
   ·obtain⟨q,g,f⟩:=av h;obtain⟨n,rfl,f⟩:=av f;exact one a j i (MK g) f
  ·rename_i k' n l;obtain⟨m,g,f⟩:=av h;obtain⟨r,e,fr,E,B,G,F⟩:=rr s i;exact⟨_,.int k' m,r,f,E,lG a j B (by simp[g]),by simp[VR]⟩
  ·cases h
 ·rename_i a;have j:bA P t=false:=by simp[bA,a]
  split at h
  ·split at h
   ·rename_i A p;obtain⟨n,g,f⟩:=av h;exact one a j i (by rw[qd p];simp[g]) f
   ·obtain⟨v,g,f⟩:=av h;exact one a j i g f
  ·cases h
 ·rename_i d g f y C a;have j:bA P t=false:=by
   simp only[bA,a];cases d<;>simp_all
  split at h
  ·obtain⟨v,g,f⟩:=av h;exact one a j i g f
  ·cases h
 ·cases h
def HS{α:Type}{ι:Inj}{w:World}{r o base:Nat}{A:Array Value}{e:TypeId}{fr:Nat×Nat}{l:List V}(C:w.heap[r]?=some (.cells A e fr))
  (B:VRs ι l ((A.toList.drop base).take l.length)) (D:base+l.length<=A.size) {t:TypeId} {c:V->Option α} {z:α} (h:uu P t (.cells l) o c=some z):
  ∃v x,c v=some z/\(Instr.loadAt t (.pointer (some ⟨r,base+o,none⟩))).run P w=.ok x w/\VR ι v x:=by
 have one:∀{d:TypeDesc} {v:V},P.underlying t=some d->bA P t=false->l[o]?=some v->c v=some z->
   ∃v x,c v=some z/\(Instr.loadAt t (.pointer (some ⟨r,base+o,none⟩))).run P w=.ok x w/\VR ι v x:=by
  intro d v a f s hc;obtain⟨x,hx,m⟩:=B.get s;have p:o<l.length:=by
   rcases aI o l.length with y | y
   ·exact y
   ·rw[dX y]at s;cases s
  rw[mR p,jK]at hx;exact⟨v,x,hc,lG a f C (by simpa using hx),m⟩
 have j:∀{d:TypeDesc},P.underlying t=some d->bA P t=true->mC P t (.cells l) o c=some z->
   ∃v x,c v=some z/\(Instr.loadAt t (.pointer (some ⟨r,base+o,none⟩))).run P w=.ok x w/\VR ι v x:=by
  intro d a f h;simp only[mC]at h;split at h
  ·rename_i u;have hle':=aJ u;refine⟨_,_,h,lI a f C (by omega),l9 ?_⟩;have:=(B.drop o).take (P.cellsOf t);rw[yL,uT,wY,o7 (by omega)]at this;simpa using this
  ·cases h
 unfold uu at h;split at h
 ·rename_i F a;exact j a (by simp[bA,a]) h
 ·rename_i n e a;exact j a (by simp[bA,a]) h
 ·rename_i k a;have f:bA P t=false:=by simp[bA,a]
  simp only at h;split at h
  ·rename_i E i;obtain⟨n,g,b⟩:=av h;exact one a f (by rw[pE i];simp[g]) b
  ·obtain⟨q,g,b⟩:=av h;obtain⟨n,rfl,b⟩:=av b;exact one a f (MK g) b
 ·rename_i a;have f:bA P t=false:=by simp[bA,a]
  simp only at h;split at h
  ·rename_i E i;obtain⟨n,g,b⟩:=av h;exact one a f (by rw[qd i];simp[g]) b
  ·obtain⟨v,g,b⟩:=av h;exact one a f g b
 ·rename_i d g b H G a;have f:bA P t=false:=by
   simp only[bA,a];cases d<;>simp_all
  simp only at h;obtain⟨v,g,b⟩:=av h;exact one a f g b
 ·cases h
def Lf.inV_ok:∀{a:Lf} {v:V} {x:a.den},a.inV v=some x->v=a.toV x
 | .i k,v,x,h=>by
  cases v<;>simp only[Lf.inV]at h<;>try cases h
  split at h
  ·rename_i A;simp only[aq]at h;subst h;rw[iL A];rfl
  ·cases h
 | .bo,v,x,h=>by cases v<;>simp only[Lf.inV]at h<;>cases h;rfl
 | .s,v,x,h=>by cases v<;>simp only[Lf.inV]at h<;>cases h;rfl
def rE:∀{t:List Lf} {l:List V} {x:den t},tq t l=some x->l=cells t x
 | [],[],_,_=>rfl
 | [],_::_,_,h=>by simp[tq]at h
 | [a],[],_,h=>by simp[tq]at h
 | [a],[v],x,h=>by
  simp only[tq]at h;rw[Lf.inV_ok h];rfl
 | [a],_::_::_,_,h=>by simp[tq]at h
 | a::b::t,[],_,h=>by simp[tq]at h
 | a::b::t,v::vs,x,h=>by
  simp only[tq]at h;split at h
  ·rename_i y hy;split at h
   ·rename_i d c;simp only[aq]at h;subst h;rw[Lf.inV_ok hy,rE c];rfl
   ·cases h
  ·cases h
def yH{t:List Lf}:∀{n:Nat} {l:List V} {m:List (den t)},yh t t.length n l=some m->l.length=n*t.length->m.length=n/\l=m.flatMap (cells t)
 | 0,l,m,h,a=>by
  simp only[yh,aq]at h;subst h;exact⟨rfl,by simpa using a⟩
 | n+1,l,m,h,a=>by
  simp only[yh]at h;split at h
  ·rename_i x hx;split at h
   ·rename_i m' d;simp only[aq]at h;subst h;rw[fh]at a;obtain⟨c,b⟩:=yH d (by rw[lY];omega);refine⟨by simp[c],?_⟩;rw[jY,<-rE hx,<-b,ui]
   ·cases h
  ·cases h
def CO(ι:Inj){t:List Lf}:∀(m:List (den t)) (a:List Value),VRs ι (m.flatMap (cells t)) a->a=m.flatMap (vals t)
 | [],a,h=>by simpa[VRs]using h
 | x::m,a,h=>by
  rw[jY]at h ⊢;have c:=h.take t.length;have b:=h.drop t.length;rw[qG (by rw[iK];exact aV _),gg (by rw[iK];exact aV _)]at c;rw[BI,oi (by rw[iK];exact aV _),iK]at b;simp only[Nat.sub_self,gk,gP]at b;rw[<-(kE ι t x _).1 c,<-CO ι m _ b,ui]
end Go.Abs
