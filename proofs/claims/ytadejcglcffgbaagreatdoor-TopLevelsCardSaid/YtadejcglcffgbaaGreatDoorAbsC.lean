
import Derived.Test.YtadejcglcffgbaaGreatDoorAbsB
import Derived.Laws.Entries
import Derived.Laws.Cells
set_option linter.unusedSimpArgs false
set_option linter.unusedVariables false
set_option linter.defProp false
namespace Go.Abs
variable {P:Program}
def nr{t:TypeId}{d:TypeDesc}(h:P.underlying t=some d):∃i,P.info? t=some i:=by
 unfold Program.underlying at h;cases hi:P.info? t with
 | none=>simp[hi]at h
 | some i=>exact⟨i,rfl⟩
def cg{t:TypeId}(h:Nat.blt 0 (P.cellsOf t)=true):∃i,P.info? t=some i:=by
 unfold Program.cellsOf at h;cases hi:P.info? t with
 | none=>simp[hi]at h
 | some i=>exact⟨i,rfl⟩
def gk{t:TypeId}{i:TypeInfo}(h:P.info? t=some i)(w:World):(sizeOf t).run P w=.ok (P.cellsOf t) w:=by
 simp[sizeOf,typeInfo,h,Program.cellsOf]
def kC{t:TypeId}{d:TypeDesc}(h:P.underlying t=some d)(w:World):(isAgg t).run P w=.ok (bY P t) w:=by
 unfold isAgg bY;rw[h];simp only[az,be h,aA];cases d<;>rfl
def DZ(ι:Inj){x:Value}{v:V}(h:ID x=some v):VR ι v x/\x.cells=#[x]/\oneV v=true:=by
 unfold ID at h;split at h<;>simp_all[Value.cells]
 all_goals (subst h;simp[VR,oneV,Value.cells,Value.oneCell'])
def Ah(ι:Inj):∀{a:List Value} {l:List V},yJ a=some l->VRs ι l a
 | [],_,h=>by simp only[yJ,aq]at h;subst h;simp[VRs]
 | x::a,l,h=>by
  simp only[yJ]at h;split at h
  ·rename_i v b;split at h
   ·rename_i m c;simp only[aq]at h;subst h;simp only[VRs];exact⟨x,a,rfl,(DZ ι b).1,Ah ι c⟩
   ·cases h
  ·cases h
def H4(ι:Inj){x:Value}{v:V}(h:QB x=some v):VR ι v x:=by
 unfold QB at h;split at h
 ·split at h
  ·rename_i a;simp only[aq]at h;subst h;simp only[VR];exact⟨_,rfl,Ah ι a⟩
  ·cases h
 ·exact(DZ ι h).1
def uM{k:IntKind}:∀{l:List V} {b:List Int},Am k l=some b->l=b.map (V.i k)
 | [],_,h=>by simp only[Am,aq]at h;subst h;rfl
 | v::l,b,h=>by
  unfold Am at h;split at h<;>rename_i a
  ·cases a
  ·injection a with h1 h2;subst h1 h2;split at h
   ·rename_i c;split at h
    ·rename_i m d;simp only[aq]at h;subst h;rw[uM d,la c];rfl
    ·cases h
   ·cases h
  ·cases h
def ul:∀{l:List V} {b:List (aa)},An l=some b->l=b.map V.s
 | [],_,h=>by simp only[An,aq]at h;subst h;rfl
 | v::l,b,h=>by
  unfold An at h;split at h<;>rename_i a
  ·cases a
  ·injection a with h1 h2;subst h1 h2;split at h
   ·rename_i m c;simp only[aq]at h;subst h;rw[ul c];rfl
   ·cases h
  ·cases h
def VRs.of_ints{ι:Inj}{k:IntKind}:∀{E:List Int} {C:List Value},VRs ι (E.map (V.i k)) C->C=E.map (Value.int k)
 | [],_,h=>by simpa[VRs]using h
 | x::E,C,h=>by
  simp only[gN,VRs,VR]at h;obtain⟨y,G,rfl,rfl,F⟩:=h;simp[VRs.of_ints F]
def qp{ι:Inj}{t:TypeId}{l:List V}{a:Array Value}(h:VRs ι l a.toList):VR ι (DL P t l) (.agg a):=by
 unfold DL;split
 ·split
  ·rename_i hx;rw[uM hx]at h;simp only[VR,kz];have:=VRs.of_ints h;rw[Value.agg.injEq];apply lq;simpa using this
  ·simp only[VR];exact⟨a,rfl,h⟩
 ·simp only[VR];exact⟨a,rfl,h⟩
def Tf{ι:Inj}{t:TypeId}{v:V}{x:Value}(h:VR ι v x):VR ι (norm P t v) x:=by
 cases v<;>simp only[norm]<;>try exact h
 simp only[VR]at h;obtain⟨a,rfl,h⟩:=h;exact qp h
def tD(n:Nat):NF (0,0) n:=by
 intro j _ h;simp at h
def IV{ι:Inj}{q:Rf}{v:V}{x:Value}(h:VR ι v x)(t:TypeId):BR ι q (Rm v) (.cells x.cells t):=by
 have one:∀{v:V} {x:Value},VR ι v x->x.cells=#[x]->BR ι q (.cells [v]) (.cells x.cells t):=by
  intro v x h hx;rw[hx];exact⟨_,_,_,rfl,by simp only[VRs];exact⟨x,[],rfl,h,rfl⟩,tD _⟩
 cases v with
 | ag l=>
  simp only[VR]at h;obtain⟨a,rfl,h⟩:=h;exact⟨a,t,(0,0),rfl,h,tD _⟩
 | ai k n l=>
  simp only[VR]at h;obtain⟨b,rfl⟩:=h;exact⟨t,(0,0),rfl,b,tD _⟩
 | _=>
  simp only[Rm];refine one h ?_;simp only[VR]at h
  first
   | (rcases h with⟨_,_,rfl⟩ | ⟨_,_,rfl⟩<;>rfl)
   | (rcases h with⟨_,_,_,_,_,_,rfl⟩ | ⟨_,_,_,rfl⟩<;>rfl)
   | (subst h;rfl)
   | (obtain⟨a,h,_⟩:=h;obtain⟨_,_,_,e⟩:=AB _ a;rw[h,e];rfl)
   | (obtain⟨_,rfl,_⟩:=h;rfl)
   | (obtain⟨_,_,rfl⟩:=h;rfl)
   | (obtain⟨_,_,_,_,_,rfl⟩:=h;rfl)
   | exact h.1
def yd(k:IntKind)(l:List Int):∀(n j:Nat),uz k l n j=(List.range n).map λi=>V.i k (l.getD (j+i) 0)
 | 0,_=>rfl
 | n+1,j=>by
  simp only[uz,yd k l n (j+1),List.range_succ_eq_map,gN,tq,dK];congr 1;apply List.map_congr_left;intro i _;simp[ig,oP 1 i]
def Dq(k:IntKind){l:List Int}{n:Nat}(h:l.length=n):uz k l n 0=l.map (V.i k):=by
 rw[yd];apply AD;intro i;by_cases hi:i<n
 ·simp[hi,h▸hi,List.getD]
 ·simp[hi,f7 (Nat.le_of_not_lt (h▸hi))]
def nL{ι:Inj}{v:V}{x:Value}(h:VR ι v x):VRs ι (cellsOf v) x.cells.toList:=by
 have one:∀{v:V} {x:Value},VR ι v x->x.cells=#[x]->VRs ι [v] x.cells.toList:=by
  intro v x h hx;rw[hx];simp only[VRs];exact⟨x,[],rfl,h,rfl⟩
 cases v with
 | ag l=>
  simp only[VR]at h;obtain⟨a,rfl,h⟩:=h;exact h
 | ai k n l=>
  simp only[VR]at h;obtain⟨b,rfl⟩:=h;simp only[cellsOf,Dq k b,Value.cells];exact VRs.ints k l
 | _=>
  simp only[cellsOf];refine one h ?_;simp only[VR]at h
  first
   | (rcases h with⟨_,_,rfl⟩ | ⟨_,_,rfl⟩<;>rfl)
   | (rcases h with⟨_,_,_,_,_,_,rfl⟩ | ⟨_,_,_,rfl⟩<;>rfl)
   | (subst h;rfl)
   | (obtain⟨a,h,_⟩:=h;obtain⟨_,_,_,e⟩:=AB _ a;rw[h,e];rfl)
   | (obtain⟨_,rfl,_⟩:=h;rfl)
   | (obtain⟨_,_,rfl⟩:=h;rfl)
   | (obtain⟨_,_,_,_,_,rfl⟩:=h;rfl)
   | exact h.1
def bz{ι:Inj}{T:List (Nat×Option V)}{a:Act}(i:TR ι T a.tmps){x:Operand}{v:V}(h:opd T x=some v):VR ι v (a.eval x):=by
 cases x with
 | tmp t=>
  simp only[opd]at h;split at h
  ·rename_i u j;simp only[aq]at h;subst h;obtain⟨y,e,d⟩:=i t u j;simpa[Act.eval,rK,e]using d
  ·cases h
 | const c=>exact H4 ι h
 | func f=>
  simp only[opd]at h;split at h
  ·rename_i b;simp only[aq]at h;subst h;simp only[VR,Act.eval];exact⟨#[],(GM b _).symm,by simp[VRs]⟩
  ·cases h
 | global g=>simp[opd]at h
def yb{ι:Inj}{T:List (Nat×Option V)}{a:Act}(c:TR ι T a.tmps):∀{b:List Operand} {l:List V},opds (opd T) b=some l->VRs ι l (b.map a.eval)
 | [],_,h=>by simp only[opds,aq]at h;subst h;simp[VRs]
 | x::b,l,h=>by
  simp only[opds]at h;split at h
  ·rename_i v d;split at h
   ·rename_i m e;simp only[aq]at h;subst h;simp only[gN,VRs];exact⟨_,_,rfl,bz c d,yb c e⟩
   ·cases h
  ·cases h
def Df{ι:Inj}{v:V}{x:Value}(h:VR ι v x)(b:oneV v=true):x.oneCell'=true:=by
 cases v<;>simp only[oneV,bQ]at b<;>simp only[VR]at h<;>first
  | (rcases h with⟨_,_,rfl⟩ | ⟨_,_,rfl⟩<;>rfl)
  | (rcases h with⟨_,_,_,_,_,_,rfl⟩ | ⟨_,_,_,rfl⟩<;>rfl)
  | (subst h;rfl)
  | (obtain⟨a,h,_⟩:=h;obtain⟨_,_,_,e⟩:=AB _ a;rw[h,e];rfl)
  | (obtain⟨_,rfl,_⟩:=h;rfl)
  | (obtain⟨_,_,rfl⟩:=h;rfl)
  | (obtain⟨_,_,_,_,_,rfl⟩:=h;rfl)
  | exact h.2
def rE{ι:Inj}{H:List (Nat×Blk)}{nb b:Nat}{w:World}(d:WR ι H nb w){l:List V}(i:look H b=some (.cells l)):
  ∃r a e fr,ι b=some (some r)/\w.heap[r.r]?=some (.cells a e fr)/\VRs ι l a.toList/\NF fr a.size:=by
 obtain⟨r,o,f,c,a,e,fr,rfl,h,g⟩:=(d.blk b _ i (by simp)).real (by simp);exact⟨r,a,e,fr,f,c,h,g⟩
def vY{ι:Inj}{H:List (Nat×Blk)}{nb b:Nat}{w:World}(c:WR ι H nb w){k:IntKind}{n:Nat}{l:List Int}(h:look H b=some (.ints k n l)):
  ∃r e fr,ι b=some (some r)/\w.heap[r.r]?=some (.cells (l.map (Value.int k)).toArray e fr)/\l.length=n/\NF fr n:=by
 obtain⟨r,o,d,a,e,fr,rfl,g,f⟩:=(c.blk b _ h (by simp)).real (by simp);exact⟨r,e,fr,d,a,g,f⟩
def jJ{ι:Inj}{H:List (Nat×Blk)}{nb b:Nat}{w:World}(g:WR ι H nb w){t:List Lf}{l:List (den t)}(h:look H b=some (.rows t l)):
  (∃r a e fr,ι b=some (some r)/\w.heap[r.r]?=some (.cells a e fr)/\l.length=r.n/\r.n<=r.k/\r.o+r.k*t.length<=a.size/\(a.toList.drop r.o).take (l.length*t.length)=l.flatMap (vals t)/\(r.fz=true\/NF fr a.size))\/
  (ι b=some none/\l=[]):=by
 rcases g.blk b _ h (by simp)with⟨r,o,d,c,a,e,fr,rfl,f⟩ | ⟨d,i,c⟩
 ·exact .inl ⟨r,a,e,fr,d,c,f⟩
 ·injection c with f h4;subst f;exact .inr ⟨d,eq_of_heq h4⟩
def oG{t:List Lf}:∀(l:List (den t)),(l.flatMap (vals t)).length=l.length*t.length
 | []=>by simp
 | x::l=>by simp[nY,gS,oG l,ia,oP]
def Np{t:List Lf}:∀(l:List (den t)) (j:Nat) (x:den t),l[j]?=some x->((l.flatMap (vals t)).drop (j*t.length)).take t.length=vals t x
 | [],j,x,h=>by simp at h
 | y::l,0,x,h=>by
  simp only[lF,aq]at h;subst h;simp only[A7,cS,nY];rw[uS (by rw[gS];exact aU _),jw (by rw[gS];exact aU _)]
 | y::l,j+1,x,h=>by
  simp only[iO9]at h;simp only[nY];rw[show(j+1)*t.length=(vals t y).length+j*t.length by rw[gS,ia];omega,IX,mB (by omega)];simp only[GY,dO];exact Np l j x h
def SD{t:List Lf}{l:List (den t)}{f:Array Value}{o:Nat}(h:(f.toList.drop o).take (l.length*t.length)=l.flatMap (vals t)){j:Nat}{x:den t}(a:l[j]?=some x):
  (f.toList.drop (o+j*t.length)).take t.length=vals t x/\j*t.length+t.length<=l.length*t.length:=by
 have d:j<l.length:=by
  rcases aJ j l.length with c | c
  ·exact c
  ·rw[f7 c]at a;cases a
 have b:j*t.length+t.length<=l.length*t.length:=by
  have:=o7 t.length (show j+1<=l.length from d);rw[ia]at this;omega
 refine⟨?_,b⟩;have e:=Np l j x a;rw[<-h,zG,CM,ta (by omega),kK]at e;exact e
def oN{t:TypeId}{d:TypeDesc}(c:P.underlying t=some d)(b:bY P t=false){w:World}{r o:Nat}{a:Array Value}{e:TypeId}{fr:Nat×Nat}
  (h:w.heap[r]?=some (.cells a e fr)) {x:Value} (hx:a[o]?=some x):(Instr.loadAt t (.pointer (some ⟨r,o,none⟩))).run P w=.ok x w:=by
 simp only[Instr.loadAt,Instr.sureAddr,loadVar,az,aD,aA,kC c,b,bQ,aF,run_load,bg h,hx]
def oU{t:TypeId}{d:TypeDesc}(g:P.underlying t=some d)(m:bY P t=true){w:World}{r o:Nat}{b:Array Value}{e:TypeId}{fr:Nat×Nat}
  (h:w.heap[r]?=some (.cells b e fr)) (n:o+P.cellsOf t<=b.size):
  (Instr.loadAt t (.pointer (some ⟨r,o,none⟩))).run P w=.ok (.agg ((b.toList.drop o).take (P.cellsOf t)).toArray) w:=by
 obtain⟨i,hi⟩:=nr g;have a:((b.toList.drop o).take (P.cellsOf t)).length=P.cellsOf t:=by simp;omega
 have hc:=wQ (P:=P) w ⟨r,o,none⟩ ((b.toList.drop o).take (P.cellsOf t)) (λj v c=>by
  have f:j<P.cellsOf t:=by
   rcases aJ j (P.cellsOf t)with k | k
   ·exact k
   ·rw[f7 (by omega)]at c;cases c
  rw[mW f,lK]at c;have:(⟨r,o,none⟩:Addr).add j=⟨r,o+j,none⟩:=by
   unfold Addr.add;split
   ·rename_i l;subst l;rfl
   ·rfl
  rw[this,bg h];simpa using c)
 rw[a]at hc;simp only[Instr.loadAt,Instr.sureAddr,loadVar,az,aD,aA,kC g,m,aN,gk hi,hc]
def Aj{α:Type}{ι:Inj}{H:List (Nat×Blk)}{nb b o:Nat}{w:World}(k:WR ι H nb w){blk:Blk}(p:look H b=some blk){t:TypeId}{d:TypeDesc}
  (l:P.underlying t=some d) (m:bY P t=true) {c:V->Option α} {z:α} (h:qH P t blk o c=some z):
  ∃v x r,c v=some z/\ι b=some (some r)/\(Instr.loadAt t (.pointer (some ⟨r.r,o,none⟩))).run P w=.ok x w/\VR ι v x:=by
 unfold qH at h;split at h
 ·split at h
  ·rename_i j;have hle':=aI j;obtain⟨r,n,e,fr,i,g,f,s⟩:=rE k p;have q:=f.length;have hsz':n.size=n.toList.length:=by simp
   exact⟨_,_,r,h,i,oU l m g (by omega),qp (by simpa using(f.drop o).take _)⟩
  ·cases h
 ·split at h
  ·rename_i a;simp only[aB,js]at a;obtain⟨rfl,u⟩:=a;obtain⟨r,e,fr,i,g,f,s⟩:=vY k p;refine⟨_,_,r,h,i,oU l m g (by simp;omega),?_⟩;simp only[VR];refine⟨f,?_⟩;rw[Value.agg.injEq];apply lq;simp only[cS];exact jw (by simp;omega)
  ·cases h
 ·cases h
def Wn{k:IntKind}{l:List V}{o:Nat}{n:Int}(h:(l.map (tI k))[o]?=some (some n)):l[o]?=some (.i k n):=by
 rw[nX]at h;cases a:l[o]? with
 | none=>rw[a]at h;cases h
 | some v=>
  rw[a]at h;simp only[fh,aq]at h;unfold tI at h;split at h
  ·split at h
   ·rename_i b;rw[la b];simp only[aq]at h;rw[h]
   ·cases h
  ·cases h
def Jp{α:Type}{ι:Inj}{H:List (Nat×Blk)}{nb b o:Nat}{w:World}(s:WR ι H nb w){blk:Blk}(j:look H b=some blk){t:TypeId}
  {c:V->Option α} {z:α} (h:zb P t blk o c=some z):
  ∃v x r,c v=some z/\ι b=some (some r)/\(Instr.loadAt t (.pointer (some ⟨r.r,o,none⟩))).run P w=.ok x w/\VR ι v x:=by
 have one:∀{d:TypeDesc} {l:List V} {v:V},P.underlying t=some d->bY P t=false->look H b=some (.cells l)->l[o]?=some v->c v=some z->
   ∃v x r,c v=some z/\ι b=some (some r)/\(Instr.loadAt t (.pointer (some ⟨r.r,o,none⟩))).run P w=.ok x w/\VR ι v x:=by
  intro d l v a i j C hc;obtain⟨r,J,e,fr,g,f,y,E⟩:=rE s j;obtain⟨x,hx,u⟩:=y.get C;exact⟨v,x,r,hc,g,oN a i f (by simpa using hx),u⟩
 unfold zb at h;split at h
 ·rename_i F a;exact Aj s j a (by simp[bY,a]) h
 ·rename_i n e a;exact Aj s j a (by simp[bY,a]) h
 ·rename_i k a;have i:bY P t=false:=by simp[bY,a]
  split at h
  ·split at h
   ·rename_i A p;obtain⟨n,g,f⟩:=ax h;exact one a i j (by rw[uM p];simp[g]) f
   ·obtain⟨q,g,f⟩:=ax h;obtain⟨n,rfl,f⟩:=ax f;exact one a i j (Wn g) f
  ·rename_i k' n l;obtain⟨m,g,f⟩:=ax h;obtain⟨r,e,fr,D,B,G,I⟩:=vY s j;exact⟨_,.int k' m,r,f,D,oN a i B (by simp[g]),by simp[VR]⟩
  ·cases h
 ·rename_i a;have i:bY P t=false:=by simp[bY,a]
  split at h
  ·split at h
   ·rename_i A p;obtain⟨n,g,f⟩:=ax h;exact one a i j (by rw[ul p];simp[g]) f
   ·obtain⟨v,g,f⟩:=ax h;exact one a i j g f
  ·cases h
 ·rename_i d g f y E a;have i:bY P t=false:=by
   simp only[bY,a];cases d<;>simp_all
  split at h
  ·obtain⟨v,g,f⟩:=ax h;exact one a i j g f
  ·cases h
 ·cases h
def Qi{α:Type}{ι:Inj}{w:World}{r o base:Nat}{y:Array Value}{e:TypeId}{fr:Nat×Nat}{l:List V}(B:w.heap[r]?=some (.cells y e fr))
  (D:VRs ι l ((y.toList.drop base).take l.length)) (C:base+l.length<=y.size) {t:TypeId} {c:V->Option α} {z:α} (h:zb P t (.cells l) o c=some z):
  ∃v x,c v=some z/\(Instr.loadAt t (.pointer (some ⟨r,base+o,none⟩))).run P w=.ok x w/\VR ι v x:=by
 have one:∀{d:TypeDesc} {v:V},P.underlying t=some d->bY P t=false->l[o]?=some v->c v=some z->
   ∃v x,c v=some z/\(Instr.loadAt t (.pointer (some ⟨r,base+o,none⟩))).run P w=.ok x w/\VR ι v x:=by
  intro d v a f A hc;obtain⟨x,hx,m⟩:=D.get A;have u:o<l.length:=by
   rcases aJ o l.length with p | p
   ·exact p
   ·rw[f7 p]at A;cases A
  rw[mW u,lK]at hx;exact⟨v,x,hc,oN a f B (by simpa using hx),m⟩
 have j:∀{d:TypeDesc},P.underlying t=some d->bY P t=true->qH P t (.cells l) o c=some z->
   ∃v x,c v=some z/\(Instr.loadAt t (.pointer (some ⟨r,base+o,none⟩))).run P w=.ok x w/\VR ι v x:=by
  intro d a f h;simp only[qH]at h;split at h
  ·rename_i s;have hle':=aI s;refine⟨_,_,h,oU a f B (by omega),qp ?_⟩;have:=(D.drop o).take (P.cellsOf t);rw[zG,kK,CM,ta (by omega)]at this;simpa using this
  ·cases h
 unfold zb at h;split at h
 ·rename_i F a;exact j a (by simp[bY,a]) h
 ·rename_i n e a;exact j a (by simp[bY,a]) h
 ·rename_i k a;have f:bY P t=false:=by simp[bY,a]
  simp only at h;split at h
  ·rename_i E i;obtain⟨n,g,b⟩:=ax h;exact one a f (by rw[uM i];simp[g]) b
  ·obtain⟨q,g,b⟩:=ax h;obtain⟨n,rfl,b⟩:=ax b;exact one a f (Wn g) b
 ·rename_i a;have f:bY P t=false:=by simp[bY,a]
  simp only at h;split at h
  ·rename_i E i;obtain⟨n,g,b⟩:=ax h;exact one a f (by rw[ul i];simp[g]) b
  ·obtain⟨v,g,b⟩:=ax h;exact one a f g b
 ·rename_i d g b H G a;have f:bY P t=false:=by
   simp only[bY,a];cases d<;>simp_all
  simp only at h;obtain⟨v,g,b⟩:=ax h;exact one a f g b
 ·cases h
def Lf.inV_ok:∀{a:Lf} {v:V} {x:a.den},a.inV v=some x->v=a.toV x
 | .i k,v,x,h=>by
  cases v<;>simp only[Lf.inV]at h<;>try cases h
  split at h
  ·rename_i C;simp only[aq]at h;subst h;rw[la C];rfl
  ·cases h
 | .bo,v,x,h=>by cases v<;>simp only[Lf.inV]at h<;>cases h;rfl
 | .s,v,x,h=>by cases v<;>simp only[Lf.inV]at h<;>cases h;rfl
def wo:∀{t:List Lf} {l:List V} {x:den t},yK t l=some x->l=cells t x
 | [],[],_,_=>rfl
 | [],_::_,_,h=>by simp[yK]at h
 | [a],[],_,h=>by simp[yK]at h
 | [a],[v],x,h=>by
  simp only[yK]at h;rw[Lf.inV_ok h];rfl
 | [a],_::_::_,_,h=>by simp[yK]at h
 | a::b::t,[],_,h=>by simp[yK]at h
 | a::b::t,v::vs,x,h=>by
  simp only[yK]at h;split at h
  ·rename_i y hy;split at h
   ·rename_i d c;simp only[aq]at h;subst h;rw[Lf.inV_ok hy,wo c];rfl
   ·cases h
  ·cases h
def Ff{t:List Lf}:∀{n:Nat} {l:List V} {m:List (den t)},ES t t.length n l=some m->l.length=n*t.length->m.length=n/\l=m.flatMap (cells t)
 | 0,l,m,h,a=>by
  simp only[ES,aq]at h;subst h;exact⟨rfl,by simpa using a⟩
 | n+1,l,m,h,a=>by
  simp only[ES]at h;split at h
  ·rename_i x hx;split at h
   ·rename_i m' d;simp only[aq]at h;subst h;rw[ia]at a;obtain⟨c,b⟩:=Ff d (by rw[ci];omega);refine⟨by simp[c],?_⟩;rw[nY,<-wo hx,<-b,tN]
   ·cases h
  ·cases h
def H6(ι:Inj){t:List Lf}:∀(m:List (den t)) (a:List Value),VRs ι (m.flatMap (cells t)) a->a=m.flatMap (vals t)
 | [],a,h=>by simpa[VRs]using h
 | x::m,a,h=>by
  rw[nY]at h ⊢;have c:=h.take t.length;have b:=h.drop t.length;rw[uS (by rw[kP];exact aU _),jw (by rw[kP];exact aU _)]at c;rw[IX,mB (by rw[kP];exact aU _),kP]at b;simp only[Be,cS,dO]at b;rw[<-(nW ι t x _).1 c,<-H6 ι m _ b,tN]
end Go.Abs
