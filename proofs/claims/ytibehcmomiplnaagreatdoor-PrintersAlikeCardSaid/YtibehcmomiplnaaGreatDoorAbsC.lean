
import Derived.Test.YtibehcmomiplnaaGreatDoorAbsB
import Derived.Laws.Entries
import Derived.Laws.Cells
set_option linter.unusedSimpArgs false
set_option linter.unusedVariables false
set_option linter.defProp false
namespace Go.Abs
variable {P:Program}
def nK{t:TypeId}{d:TypeDesc}(h:P.underlying t=some d):∃i,P.info? t=some i:=by
 unfold Program.underlying at h;cases hi:P.info? t with
 | none=>simp[hi]at h
 | some i=>exact⟨i,rfl⟩
def cf{t:TypeId}(h:Nat.blt 0 (P.cellsOf t)=true):∃i,P.info? t=some i:=by
 unfold Program.cellsOf at h;cases hi:P.info? t with
 | none=>simp[hi]at h
 | some i=>exact⟨i,rfl⟩
def gy{t:TypeId}{i:TypeInfo}(h:P.info? t=some i)(w:World):(sizeOf t).run P w=.ok (P.cellsOf t) w:=by
 simp[sizeOf,typeInfo,h,Program.cellsOf]
def lh{t:TypeId}{d:TypeDesc}(h:P.underlying t=some d)(w:World):(isAgg t).run P w=.ok (bY P t) w:=by
 unfold isAgg bY;rw[h];simp only[ay,ba h,aB];cases d<;>rfl
def DU(ι:Inj){x:Value}{v:V}(h:I8 x=some v):VR ι v x/\x.cells=#[x]/\oneV v=true:=by
 unfold I8 at h;split at h<;>simp_all[Value.cells]
 all_goals (subst h;simp[VR,oneV,Value.cells,Value.oneCell'])
def zW(ι:Inj):∀{a:List Value} {l:List V},yk a=some l->VRs ι l a
 | [],_,h=>by simp only[yk,ar]at h;subst h;simp[VRs]
 | x::a,l,h=>by
  simp only[yk]at h;split at h
  ·rename_i v b;split at h
   ·rename_i m c;simp only[ar]at h;subst h;simp only[VRs];exact⟨x,a,rfl,(DU ι b).1,zW ι c⟩
   ·cases h
  ·cases h
def IF(ι:Inj){x:Value}{v:V}(h:Qb x=some v):VR ι v x:=by
 unfold Qb at h;split at h
 ·split at h
  ·rename_i a;simp only[ar]at h;subst h;simp only[VR];exact⟨_,rfl,zW ι a⟩
  ·cases h
 ·exact(DU ι h).1
def uR{k:IntKind}:∀{l:List V} {b:List Int},Ar k l=some b->l=b.map (V.i k)
 | [],_,h=>by simp only[Ar,ar]at h;subst h;rfl
 | v::l,b,h=>by
  unfold Ar at h;split at h<;>rename_i a
  ·cases a
  ·injection a with h1 h2;subst h1 h2;split at h
   ·rename_i d;split at h
    ·rename_i m c;simp only[ar]at h;subst h;rw[uR c,lM d];rfl
    ·cases h
   ·cases h
  ·cases h
def uS:∀{l:List V} {b:List (aa)},zU l=some b->l=b.map V.s
 | [],_,h=>by simp only[zU,ar]at h;subst h;rfl
 | v::l,b,h=>by
  unfold zU at h;split at h<;>rename_i a
  ·cases a
  ·injection a with h1 h2;subst h1 h2;split at h
   ·rename_i m c;simp only[ar]at h;subst h;rw[uS c];rfl
   ·cases h
  ·cases h
def VRs.of_ints{ι:Inj}{k:IntKind}:∀{C:List Int} {E:List Value},VRs ι (C.map (V.i k)) E->E=C.map (Value.int k)
 | [],_,h=>by simpa[VRs]using h
 | x::C,E,h=>by
  simp only[gJ,VRs,VR]at h;obtain⟨y,G,rfl,rfl,F⟩:=h;simp[VRs.of_ints F]
def qz{ι:Inj}{t:TypeId}{l:List V}{a:Array Value}(h:VRs ι l a.toList):VR ι (Ew P t l) (.agg a):=by
 unfold Ew;split
 ·split
  ·rename_i hx;rw[uR hx]at h;simp only[VR,kO];have:=VRs.of_ints h;rw[Value.agg.injEq];apply lU;simpa using this
  ·simp only[VR];exact⟨a,rfl,h⟩
 ·simp only[VR];exact⟨a,rfl,h⟩
def Vs{ι:Inj}{t:TypeId}{v:V}{x:Value}(h:VR ι v x):VR ι (norm P t v) x:=by
 cases v<;>simp only[norm]<;>try exact h
 simp only[VR]at h;obtain⟨a,rfl,h⟩:=h;exact qz h
def tV(n:Nat):NF (0,0) n:=by
 intro j _ h;simp at h
def Jf{ι:Inj}{q:Rf}{v:V}{x:Value}(h:VR ι v x)(t:TypeId):BR ι q (QR v) (.cells x.cells t):=by
 have one:∀{v:V} {x:Value},VR ι v x->x.cells=#[x]->BR ι q (.cells [v]) (.cells x.cells t):=by
  intro v x h hx;rw[hx];exact⟨_,_,_,rfl,by simp only[VRs];exact⟨x,[],rfl,h,rfl⟩,tV _⟩
 cases v with
 | ag l=>
  simp only[VR]at h;obtain⟨a,rfl,h⟩:=h;exact⟨a,t,(0,0),rfl,h,tV _⟩
 | ai k n l=>
  simp only[VR]at h;obtain⟨b,rfl⟩:=h;exact⟨t,(0,0),rfl,b,tV _⟩
 | _=>
  simp only[QR];refine one h ?_;simp only[VR]at h
  first
   | (rcases h with⟨_,_,rfl⟩ | ⟨_,_,rfl⟩<;>rfl)
   | (rcases h with⟨_,_,_,_,_,_,rfl⟩ | ⟨_,_,_,rfl⟩<;>rfl)
   | (subst h;rfl)
   | (obtain⟨a,h,_⟩:=h;obtain⟨_,_,_,e⟩:=AG _ a;rw[h,e];rfl)
   | (obtain⟨_,rfl,_⟩:=h;rfl)
   | (obtain⟨_,_,rfl⟩:=h;rfl)
   | (obtain⟨_,_,_,_,_,rfl⟩:=h;rfl)
   | exact h.1
def xo(k:IntKind)(l:List Int):∀(n j:Nat),uD k l n j=(List.range n).map λi=>V.i k (l.getD (j+i) 0)
 | 0,_=>rfl
 | n+1,j=>by
  simp only[uD,xo k l n (j+1),List.range_succ_eq_map,gJ,uh,dP];congr 1;apply List.map_congr_left;intro i _;simp[gR,o8 1 i]
def Es(k:IntKind){l:List Int}{n:Nat}(h:l.length=n):uD k l n 0=l.map (V.i k):=by
 rw[xo];apply AT;intro i;by_cases hi:i<n
 ·simp[hi,h▸hi,List.getD]
 ·simp[hi,gh (Nat.le_of_not_lt (h▸hi))]
def n7{ι:Inj}{v:V}{x:Value}(h:VR ι v x):VRs ι (cellsOf v) x.cells.toList:=by
 have one:∀{v:V} {x:Value},VR ι v x->x.cells=#[x]->VRs ι [v] x.cells.toList:=by
  intro v x h hx;rw[hx];simp only[VRs];exact⟨x,[],rfl,h,rfl⟩
 cases v with
 | ag l=>
  simp only[VR]at h;obtain⟨a,rfl,h⟩:=h;exact h
 | ai k n l=>
  simp only[VR]at h;obtain⟨b,rfl⟩:=h;simp only[cellsOf,Es k b,Value.cells];exact VRs.ints k l
 | _=>
  simp only[cellsOf];refine one h ?_;simp only[VR]at h
  first
   | (rcases h with⟨_,_,rfl⟩ | ⟨_,_,rfl⟩<;>rfl)
   | (rcases h with⟨_,_,_,_,_,_,rfl⟩ | ⟨_,_,_,rfl⟩<;>rfl)
   | (subst h;rfl)
   | (obtain⟨a,h,_⟩:=h;obtain⟨_,_,_,e⟩:=AG _ a;rw[h,e];rfl)
   | (obtain⟨_,rfl,_⟩:=h;rfl)
   | (obtain⟨_,_,rfl⟩:=h;rfl)
   | (obtain⟨_,_,_,_,_,rfl⟩:=h;rfl)
   | exact h.1
def bv{ι:Inj}{T:List (Nat×Option V)}{a:Act}(i:TR ι T a.tmps){x:Operand}{v:V}(h:opd T x=some v):VR ι v (a.eval x):=by
 cases x with
 | tmp t=>
  simp only[opd]at h;split at h
  ·rename_i u b;simp only[ar]at h;subst h;obtain⟨y,e,j⟩:=i t u b;simpa[Act.eval,rj,e]using j
  ·cases h
 | const c=>exact IF ι h
 | func f=>
  simp only[opd]at h;split at h
  ·rename_i d;simp only[ar]at h;subst h;simp only[VR,Act.eval];exact⟨#[],(GG d _).symm,by simp[VRs]⟩
  ·cases h
 | global g=>simp[opd]at h
def yW{ι:Inj}{T:List (Nat×Option V)}{a:Act}(c:TR ι T a.tmps):∀{b:List Operand} {l:List V},opds (opd T) b=some l->VRs ι l (b.map a.eval)
 | [],_,h=>by simp only[opds,ar]at h;subst h;simp[VRs]
 | x::b,l,h=>by
  simp only[opds]at h;split at h
  ·rename_i v d;split at h
   ·rename_i m e;simp only[ar]at h;subst h;simp only[gJ,VRs];exact⟨_,_,rfl,bv c d,yW c e⟩
   ·cases h
  ·cases h
def Ez{ι:Inj}{v:V}{x:Value}(h:VR ι v x)(a:oneV v=true):x.oneCell'=true:=by
 cases v<;>simp only[oneV,bU]at a<;>simp only[VR]at h<;>first
  | (rcases h with⟨_,_,rfl⟩ | ⟨_,_,rfl⟩<;>rfl)
  | (rcases h with⟨_,_,_,_,_,_,rfl⟩ | ⟨_,_,_,rfl⟩<;>rfl)
  | (subst h;rfl)
  | (obtain⟨b,h,_⟩:=h;obtain⟨_,_,_,e⟩:=AG _ b;rw[h,e];rfl)
  | (obtain⟨_,rfl,_⟩:=h;rfl)
  | (obtain⟨_,_,rfl⟩:=h;rfl)
  | (obtain⟨_,_,_,_,_,rfl⟩:=h;rfl)
  | exact h.2
def rt{ι:Inj}{H:List (Nat×Blk)}{nb b:Nat}{w:World}(g:WR ι H nb w){l:List V}(d:look H b=some (.cells l)):
  ∃r a e fr,ι b=some (some r)/\w.heap[r.r]?=some (.cells a e fr)/\VRs ι l a.toList/\NF fr a.size:=by
 obtain⟨r,o,c,h,a,e,fr,rfl,f,i⟩:=(g.blk b _ d (by simp)).real (by simp);exact⟨r,a,e,fr,c,h,f,i⟩
def wX{ι:Inj}{H:List (Nat×Blk)}{nb b:Nat}{w:World}(f:WR ι H nb w){k:IntKind}{n:Nat}{l:List Int}(c:look H b=some (.ints k n l)):
  ∃r e fr,ι b=some (some r)/\w.heap[r.r]?=some (.cells (l.map (Value.int k)).toArray e fr)/\l.length=n/\NF fr n:=by
 obtain⟨r,o,a,g,e,fr,rfl,d,h⟩:=(f.blk b _ c (by simp)).real (by simp);exact⟨r,e,fr,a,g,d,h⟩
def jQ{ι:Inj}{H:List (Nat×Blk)}{nb b:Nat}{w:World}(h:WR ι H nb w){t:List Lf}{l:List (den t)}(g:look H b=some (.rows t l)):
  (∃r a e fr,ι b=some (some r)/\w.heap[r.r]?=some (.cells a e fr)/\l.length=r.n/\r.n<=r.k/\r.o+r.k*t.length<=a.size/\(a.toList.drop r.o).take (l.length*t.length)=l.flatMap (vals t)/\(r.fz=true\/NF fr a.size))\/
  (ι b=some none/\l=[]):=by
 rcases h.blk b _ g (by simp)with⟨r,o,c,f,a,e,fr,rfl,d⟩ | ⟨c,i,f⟩
 ·exact .inl ⟨r,a,e,fr,c,f,d⟩
 ·injection f with d h4;subst d;exact .inr ⟨c,eq_of_heq h4⟩
def oP{t:List Lf}:∀(l:List (den t)),(l.flatMap (vals t)).length=l.length*t.length
 | []=>by simp
 | x::l=>by simp[oQ,ia,oP l,ij,o8]
def MH{t:List Lf}:∀(l:List (den t)) (j:Nat) (x:den t),l[j]?=some x->((l.flatMap (vals t)).drop (j*t.length)).take t.length=vals t x
 | [],j,x,h=>by simp at h
 | y::l,0,x,h=>by
  simp only[lw,ar]at h;subst h;simp only[CN,dk,oQ];rw[vn (by rw[ia];exact bg _),jK (by rw[ia];exact bg _)]
 | y::l,j+1,x,h=>by
  simp only[E7]at h;simp only[oQ];rw[show(j+1)*t.length=(vals t y).length+j*t.length by rw[ia,ij];omega,Jb,l9 (by omega)];simp only[Ho,dQ];exact MH l j x h
def SA{t:List Lf}{l:List (den t)}{e:Array Value}{o:Nat}(h:(e.toList.drop o).take (l.length*t.length)=l.flatMap (vals t)){j:Nat}{x:den t}(c:l[j]?=some x):
  (e.toList.drop (o+j*t.length)).take t.length=vals t x/\j*t.length+t.length<=l.length*t.length:=by
 have d:j<l.length:=by
  rcases aN j l.length with b | b
  ·exact b
  ·rw[gh b]at c;cases c
 have a:j*t.length+t.length<=l.length*t.length:=by
  have:=pa t.length (show j+1<=l.length from d);rw[ij]at this;omega
 refine⟨?_,a⟩;have f:=MH l j x c;rw[<-h,zT,BV,rL (by omega),kZ]at f;exact f
def pf{t:TypeId}{d:TypeDesc}(c:P.underlying t=some d)(b:bY P t=false){w:World}{r o:Nat}{a:Array Value}{e:TypeId}{fr:Nat×Nat}
  (h:w.heap[r]?=some (.cells a e fr)) {x:Value} (hx:a[o]?=some x):(Instr.loadAt t (.pointer (some ⟨r,o,none⟩))).run P w=.ok x w:=by
 simp only[Instr.loadAt,Instr.sureAddr,loadVar,ay,aE,aB,lh c,b,bU,aG,run_load,bh h,hx]
def pi{t:TypeId}{d:TypeDesc}(k:P.underlying t=some d)(l:bY P t=true){w:World}{r o:Nat}{a:Array Value}{e:TypeId}{fr:Nat×Nat}
  (h:w.heap[r]?=some (.cells a e fr)) (n:o+P.cellsOf t<=a.size):
  (Instr.loadAt t (.pointer (some ⟨r,o,none⟩))).run P w=.ok (.agg ((a.toList.drop o).take (P.cellsOf t)).toArray) w:=by
 obtain⟨i,hi⟩:=nK k;have b:((a.toList.drop o).take (P.cellsOf t)).length=P.cellsOf t:=by simp;omega
 have hc:=za (P:=P) w ⟨r,o,none⟩ ((a.toList.drop o).take (P.cellsOf t)) (λj v c=>by
  have f:j<P.cellsOf t:=by
   rcases aN j (P.cellsOf t)with g | g
   ·exact g
   ·rw[gh (by omega)]at c;cases c
  rw[ma f,lW]at c;have:(⟨r,o,none⟩:Addr).add j=⟨r,o+j,none⟩:=by
   unfold Addr.add;split
   ·rename_i m;subst m;rfl
   ·rfl
  rw[this,bh h];simpa using c)
 rw[b]at hc;simp only[Instr.loadAt,Instr.sureAddr,loadVar,ay,aE,aB,lh k,l,aQ,gy hi,hc]
def Ax{α:Type}{ι:Inj}{H:List (Nat×Blk)}{nb b o:Nat}{w:World}(n:WR ι H nb w){blk:Blk}(m:look H b=some blk){t:TypeId}{d:TypeDesc}
  (p:P.underlying t=some d) (k:bY P t=true) {c:V->Option α} {z:α} (h:qR P t blk o c=some z):
  ∃v x r,c v=some z/\ι b=some (some r)/\(Instr.loadAt t (.pointer (some ⟨r.r,o,none⟩))).run P w=.ok x w/\VR ι v x:=by
 unfold qR at h;split at h
 ·split at h
  ·rename_i g;have hle':=aM g;obtain⟨r,l,e,fr,i,j,f,q⟩:=rt n m;have u:=f.length;have hsz':l.size=l.toList.length:=by simp
   exact⟨_,_,r,h,i,pi p k j (by omega),qz (by simpa using(f.drop o).take _)⟩
  ·cases h
 ·split at h
  ·rename_i a;simp only[aA,jB]at a;obtain⟨rfl,s⟩:=a;obtain⟨r,e,fr,i,j,f,q⟩:=wX n m;refine⟨_,_,r,h,i,pi p k j (by simp;omega),?_⟩;simp only[VR];refine⟨f,?_⟩;rw[Value.agg.injEq];apply lU;simp only[dk];exact jK (by simp;omega)
  ·cases h
 ·cases h
def Yd{k:IntKind}{l:List V}{o:Nat}{n:Int}(h:(l.map (tI k))[o]?=some (some n)):l[o]?=some (.i k n):=by
 rw[nF]at h;cases a:l[o]? with
 | none=>rw[a]at h;cases h
 | some v=>
  rw[a]at h;simp only[fm,ar]at h;unfold tI at h;split at h
  ·split at h
   ·rename_i b;rw[lM b];simp only[ar]at h;rw[h]
   ·cases h
  ·cases h
def IJ{α:Type}{ι:Inj}{H:List (Nat×Blk)}{nb b o:Nat}{w:World}(s:WR ι H nb w){blk:Blk}(j:look H b=some blk){t:TypeId}
  {c:V->Option α} {z:α} (h:zC P t blk o c=some z):
  ∃v x r,c v=some z/\ι b=some (some r)/\(Instr.loadAt t (.pointer (some ⟨r.r,o,none⟩))).run P w=.ok x w/\VR ι v x:=by
 have one:∀{d:TypeDesc} {l:List V} {v:V},P.underlying t=some d->bY P t=false->look H b=some (.cells l)->l[o]?=some v->c v=some z->
   ∃v x r,c v=some z/\ι b=some (some r)/\(Instr.loadAt t (.pointer (some ⟨r.r,o,none⟩))).run P w=.ok x w/\VR ι v x:=by
  intro d l v a i j B hc;obtain⟨r,F,e,fr,g,f,y,E⟩:=rt s j;obtain⟨x,hx,u⟩:=y.get B;exact⟨v,x,r,hc,g,pf a i f (by simpa using hx),u⟩
 unfold zC at h;split at h
 ·rename_i G a;exact Ax s j a (by simp[bY,a]) h
 ·rename_i n e a;exact Ax s j a (by simp[bY,a]) h
 ·rename_i k a;have i:bY P t=false:=by simp[bY,a]
  split at h
  ·split at h
   ·rename_i A p;obtain⟨n,g,f⟩:=ax h;exact one a i j (by rw[uR p];simp[g]) f
   ·obtain⟨q,g,f⟩:=ax h;obtain⟨n,rfl,f⟩:=ax f;exact one a i j (Yd g) f
  ·rename_i k' n l;obtain⟨m,g,f⟩:=ax h;obtain⟨r,e,fr,C,D,I,J⟩:=wX s j;exact⟨_,.int k' m,r,f,C,pf a i D (by simp[g]),by simp[VR]⟩
  ·cases h
 ·rename_i a;have i:bY P t=false:=by simp[bY,a]
  split at h
  ·split at h
   ·rename_i A p;obtain⟨n,g,f⟩:=ax h;exact one a i j (by rw[uS p];simp[g]) f
   ·obtain⟨v,g,f⟩:=ax h;exact one a i j g f
  ·cases h
 ·rename_i d g f y E a;have i:bY P t=false:=by
   simp only[bY,a];cases d<;>simp_all
  split at h
  ·obtain⟨v,g,f⟩:=ax h;exact one a i j g f
  ·cases h
 ·cases h
def PW{α:Type}{ι:Inj}{w:World}{r o base:Nat}{s:Array Value}{e:TypeId}{fr:Nat×Nat}{l:List V}(C:w.heap[r]?=some (.cells s e fr))
  (D:VRs ι l ((s.toList.drop base).take l.length)) (B:base+l.length<=s.size) {t:TypeId} {c:V->Option α} {z:α} (h:zC P t (.cells l) o c=some z):
  ∃v x,c v=some z/\(Instr.loadAt t (.pointer (some ⟨r,base+o,none⟩))).run P w=.ok x w/\VR ι v x:=by
 have one:∀{d:TypeDesc} {v:V},P.underlying t=some d->bY P t=false->l[o]?=some v->c v=some z->
   ∃v x,c v=some z/\(Instr.loadAt t (.pointer (some ⟨r,base+o,none⟩))).run P w=.ok x w/\VR ι v x:=by
  intro d v a f A hc;obtain⟨x,hx,p⟩:=D.get A;have m:o<l.length:=by
   rcases aN o l.length with y | y
   ·exact y
   ·rw[gh y]at A;cases A
  rw[ma m,lW]at hx;exact⟨v,x,hc,pf a f C (by simpa using hx),p⟩
 have j:∀{d:TypeDesc},P.underlying t=some d->bY P t=true->qR P t (.cells l) o c=some z->
   ∃v x,c v=some z/\(Instr.loadAt t (.pointer (some ⟨r,base+o,none⟩))).run P w=.ok x w/\VR ι v x:=by
  intro d a f h;simp only[qR]at h;split at h
  ·rename_i u;have hle':=aM u;refine⟨_,_,h,pi a f C (by omega),qz ?_⟩;have:=(D.drop o).take (P.cellsOf t);rw[zT,kZ,BV,rL (by omega)]at this;simpa using this
  ·cases h
 unfold zC at h;split at h
 ·rename_i F a;exact j a (by simp[bY,a]) h
 ·rename_i n e a;exact j a (by simp[bY,a]) h
 ·rename_i k a;have f:bY P t=false:=by simp[bY,a]
  simp only at h;split at h
  ·rename_i E i;obtain⟨n,g,b⟩:=ax h;exact one a f (by rw[uR i];simp[g]) b
  ·obtain⟨q,g,b⟩:=ax h;obtain⟨n,rfl,b⟩:=ax b;exact one a f (Yd g) b
 ·rename_i a;have f:bY P t=false:=by simp[bY,a]
  simp only at h;split at h
  ·rename_i E i;obtain⟨n,g,b⟩:=ax h;exact one a f (by rw[uS i];simp[g]) b
  ·obtain⟨v,g,b⟩:=ax h;exact one a f g b
 ·rename_i d g b H G a;have f:bY P t=false:=by
   simp only[bY,a];cases d<;>simp_all
  simp only at h;obtain⟨v,g,b⟩:=ax h;exact one a f g b
 ·cases h
def Lf.inV_ok:∀{a:Lf} {v:V} {x:a.den},a.inV v=some x->v=a.toV x
 | .i k,v,x,h=>by
  cases v<;>simp only[Lf.inV]at h<;>try cases h
  split at h
  ·rename_i C;simp only[ar]at h;subst h;rw[lM C];rfl
  ·cases h
 | .bo,v,x,h=>by cases v<;>simp only[Lf.inV]at h<;>cases h;rfl
 | .s,v,x,h=>by cases v<;>simp only[Lf.inV]at h<;>cases h;rfl
def wJ:∀{t:List Lf} {l:List V} {x:den t},yX t l=some x->l=cells t x
 | [],[],_,_=>rfl
 | [],_::_,_,h=>by simp[yX]at h
 | [a],[],_,h=>by simp[yX]at h
 | [a],[v],x,h=>by
  simp only[yX]at h;rw[Lf.inV_ok h];rfl
 | [a],_::_::_,_,h=>by simp[yX]at h
 | a::b::t,[],_,h=>by simp[yX]at h
 | a::b::t,v::vs,x,h=>by
  simp only[yX]at h;split at h
  ·rename_i y hy;split at h
   ·rename_i d c;simp only[ar]at h;subst h;rw[Lf.inV_ok hy,wJ c];rfl
   ·cases h
  ·cases h
def DJ{t:List Lf}:∀{n:Nat} {l:List V} {m:List (den t)},Fe t t.length n l=some m->l.length=n*t.length->m.length=n/\l=m.flatMap (cells t)
 | 0,l,m,h,a=>by
  simp only[Fe,ar]at h;subst h;exact⟨rfl,by simpa using a⟩
 | n+1,l,m,h,a=>by
  simp only[Fe]at h;split at h
  ·rename_i x hx;split at h
   ·rename_i m' c;simp only[ar]at h;subst h;rw[ij]at a;obtain⟨b,d⟩:=DJ c (by rw[cj];omega);refine⟨by simp[b],?_⟩;rw[oQ,<-wJ hx,<-d,tH]
   ·cases h
  ·cases h
def HZ(ι:Inj){t:List Lf}:∀(m:List (den t)) (a:List Value),VRs ι (m.flatMap (cells t)) a->a=m.flatMap (vals t)
 | [],a,h=>by simpa[VRs]using h
 | x::m,a,h=>by
  rw[oQ]at h ⊢;have c:=h.take t.length;have b:=h.drop t.length;rw[vn (by rw[lu];exact bg _),jK (by rw[lu];exact bg _)]at c;rw[Jb,l9 (by rw[lu];exact bg _),lu]at b;simp only[Cd,dk,dQ]at b;rw[<-(og ι t x _).1 c,<-HZ ι m _ b,tH]
end Go.Abs
