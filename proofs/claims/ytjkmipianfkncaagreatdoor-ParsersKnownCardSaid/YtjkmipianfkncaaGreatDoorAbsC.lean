
import Derived.Test.YtjkmipianfkncaaGreatDoorAbsB
import Derived.Laws.Entries
import Derived.Laws.Cells
set_option linter.unusedSimpArgs false
set_option linter.unusedVariables false
set_option linter.defProp false
namespace Go.Abs
variable {P:Program}
def m8{t:TypeId}{d:TypeDesc}(h:P.underlying t=some d):∃i,P.info? t=some i:=by
 unfold Program.underlying at h;cases hi:P.info? t with
 | none=>simp[hi]at h
 | some i=>exact⟨i,rfl⟩
def bX{t:TypeId}(h:Nat.blt 0 (P.cellsOf t)=true):∃i,P.info? t=some i:=by
 unfold Program.cellsOf at h;cases hi:P.info? t with
 | none=>simp[hi]at h
 | some i=>exact⟨i,rfl⟩
def f9{t:TypeId}{i:TypeInfo}(h:P.info? t=some i)(w:World):(sizeOf t).run P w=.ok (P.cellsOf t) w:=by
 simp[sizeOf,typeInfo,h,Program.cellsOf]
def kl{t:TypeId}{d:TypeDesc}(h:P.underlying t=some d)(w:World):(isAgg t).run P w=.ok (bU P t) w:=by
 unfold isAgg bU;rw[h];simp only[aw,aU h,ay];cases d<;>rfl
def BJ(ι:Inj){x:Value}{v:V}(h:Hw x=some v):VR ι v x/\x.cells=#[x]/\oneV v=true:=by
 unfold Hw at h;split at h<;>simp_all[Value.cells]
 all_goals (subst h;simp[VR,oneV,Value.cells,Value.oneCell'])
def zw(ι:Inj):∀{a:List Value} {l:List V},xA a=some l->VRs ι l a
 | [],_,h=>by simp only[xA,ar]at h;subst h;simp[VRs]
 | x::a,l,h=>by
  simp only[xA]at h;split at h
  ·rename_i v c;split at h
   ·rename_i m b;simp only[ar]at h;subst h;simp only[VRs];exact⟨x,a,rfl,(BJ ι c).1,zw ι b⟩
   ·cases h
  ·cases h
def GO(ι:Inj){x:Value}{v:V}(h:OM x=some v):VR ι v x:=by
 unfold OM at h;split at h
 ·split at h
  ·rename_i a;simp only[ar]at h;subst h;simp only[VR];exact⟨_,rfl,zw ι a⟩
  ·cases h
 ·exact(BJ ι h).1
def t7{k:IntKind}:∀{l:List V} {b:List Int},ze k l=some b->l=b.map (V.i k)
 | [],_,h=>by simp only[ze,ar]at h;subst h;rfl
 | v::l,b,h=>by
  unfold ze at h;split at h<;>rename_i a
  ·cases a
  ·injection a with h1 h2;subst h1 h2;split at h
   ·rename_i d;split at h
    ·rename_i m c;simp only[ar]at h;subst h;rw[t7 c,k9 d];rfl
    ·cases h
   ·cases h
  ·cases h
def sZ:∀{l:List V} {b:List (aa)},yW l=some b->l=b.map V.s
 | [],_,h=>by simp only[yW,ar]at h;subst h;rfl
 | v::l,b,h=>by
  unfold yW at h;split at h<;>rename_i a
  ·cases a
  ·injection a with h1 h2;subst h1 h2;split at h
   ·rename_i m c;simp only[ar]at h;subst h;rw[sZ c];rfl
   ·cases h
  ·cases h
def VRs.of_ints{ι:Inj}{k:IntKind}:∀{C:List Int} {E:List Value},VRs ι (C.map (V.i k)) E->E=C.map (Value.int k)
 | [],_,h=>by simpa[VRs]using h
 | x::C,E,h=>by
  simp only[fV,VRs,VR]at h;obtain⟨y,ys,rfl,rfl,F⟩:=h;simp[VRs.of_ints F]
def o7{ι:Inj}{t:TypeId}{l:List V}{a:Array Value}(h:VRs ι l a.toList):VR ι (CC P t l) (.agg a):=by
 unfold CC;split
 ·split
  ·rename_i hx;rw[t7 hx]at h;simp only[VR,jD];have:=VRs.of_ints h;rw[Value.agg.injEq];apply mS;simpa using this
  ·simp only[VR];exact⟨a,rfl,h⟩
 ·simp only[VR];exact⟨a,rfl,h⟩
def QP{ι:Inj}{t:TypeId}{v:V}{x:Value}(h:VR ι v x):VR ι (norm P t v) x:=by
 cases v<;>simp only[norm]<;>try exact h
 simp only[VR]at h;obtain⟨a,rfl,h⟩:=h;exact o7 h
def su(n:Nat):NF (0,0) n:=by
 intro j _ h;simp at h
def Hf{ι:Inj}{q:Rf}{v:V}{x:Value}(h:VR ι v x)(t:TypeId):BR ι q (Oi v) (.cells x.cells t):=by
 have one:∀{v:V} {x:Value},VR ι v x->x.cells=#[x]->BR ι q (.cells [v]) (.cells x.cells t):=by
  intro v x h hx;rw[hx];exact⟨_,_,_,rfl,by simp only[VRs];exact⟨x,[],rfl,h,rfl⟩,su _⟩
 cases v with
 | ag l=>
  simp only[VR]at h;obtain⟨a,rfl,h⟩:=h;exact⟨a,t,(0,0),rfl,h,su _⟩
 | ai k n l=>
  simp only[VR]at h;obtain⟨b,rfl⟩:=h;exact⟨t,(0,0),rfl,b,su _⟩
 | _=>
  simp only[Oi];refine one h ?_;simp only[VR]at h
  first
   | (rcases h with⟨_,_,rfl⟩ | ⟨_,_,rfl⟩<;>rfl)
   | (rcases h with⟨_,_,_,_,_,_,rfl⟩ | ⟨_,_,_,rfl⟩<;>rfl)
   | (subst h;rfl)
   | (obtain⟨a,h,_⟩:=h;obtain⟨_,_,_,e⟩:=zB _ a;rw[h,e];rfl)
   | (obtain⟨_,rfl,_⟩:=h;rfl)
   | (obtain⟨_,_,rfl⟩:=h;rfl)
   | (obtain⟨_,_,_,_,_,rfl⟩:=h;rfl)
   | exact h.1
def xm(k:IntKind)(l:List Int):∀(n j:Nat),sW k l n j=(List.range n).map λi=>V.i k (l.getD (j+i) 0)
 | 0,_=>rfl
 | n+1,j=>by
  simp only[sW,xm k l n (j+1),List.range_succ_eq_map,fV,uU,cG];congr 1;apply List.map_congr_left;intro i _;simp[gX,pD 1 i]
def CL(k:IntKind){l:List Int}{n:Nat}(h:l.length=n):sW k l n 0=l.map (V.i k):=by
 rw[xm];apply B9;intro i;by_cases hi:i<n
 ·simp[hi,h▸hi,List.getD]
 ·simp[hi,gU (Nat.le_of_not_lt (h▸hi))]
def nq{ι:Inj}{v:V}{x:Value}(h:VR ι v x):VRs ι (cellsOf v) x.cells.toList:=by
 have one:∀{v:V} {x:Value},VR ι v x->x.cells=#[x]->VRs ι [v] x.cells.toList:=by
  intro v x h hx;rw[hx];simp only[VRs];exact⟨x,[],rfl,h,rfl⟩
 cases v with
 | ag l=>
  simp only[VR]at h;obtain⟨a,rfl,h⟩:=h;exact h
 | ai k n l=>
  simp only[VR]at h;obtain⟨b,rfl⟩:=h;simp only[cellsOf,CL k b,Value.cells];exact VRs.ints k l
 | _=>
  simp only[cellsOf];refine one h ?_;simp only[VR]at h
  first
   | (rcases h with⟨_,_,rfl⟩ | ⟨_,_,rfl⟩<;>rfl)
   | (rcases h with⟨_,_,_,_,_,_,rfl⟩ | ⟨_,_,_,rfl⟩<;>rfl)
   | (subst h;rfl)
   | (obtain⟨a,h,_⟩:=h;obtain⟨_,_,_,e⟩:=zB _ a;rw[h,e];rfl)
   | (obtain⟨_,rfl,_⟩:=h;rfl)
   | (obtain⟨_,_,rfl⟩:=h;rfl)
   | (obtain⟨_,_,_,_,_,rfl⟩:=h;rfl)
   | exact h.1
def br{ι:Inj}{T:List (Nat×Option V)}{a:Act}(b:TR ι T a.tmps){x:Operand}{v:V}(h:opd T x=some v):VR ι v (a.eval x):=by
 cases x with
 | tmp t=>
  simp only[opd]at h;split at h
  ·rename_i u j;simp only[ar]at h;subst h;obtain⟨y,d,e⟩:=b t u j;simpa[Act.eval,qf,d]using e
  ·cases h
 | const c=>exact GO ι h
 | func f=>
  simp only[opd]at h;split at h
  ·rename_i i;simp only[ar]at h;subst h;simp only[VR,Act.eval];exact⟨#[],(Fe i _).symm,by simp[VRs]⟩
  ·cases h
 | global g=>simp[opd]at h
def xc{ι:Inj}{T:List (Nat×Option V)}{a:Act}(c:TR ι T a.tmps):∀{b:List Operand} {l:List V},opds (opd T) b=some l->VRs ι l (b.map a.eval)
 | [],_,h=>by simp only[opds,ar]at h;subst h;simp[VRs]
 | x::b,l,h=>by
  simp only[opds]at h;split at h
  ·rename_i v e;split at h
   ·rename_i m d;simp only[ar]at h;subst h;simp only[fV,VRs];exact⟨_,_,rfl,br c e,xc c d⟩
   ·cases h
  ·cases h
def C9{ι:Inj}{v:V}{x:Value}(h:VR ι v x)(a:oneV v=true):x.oneCell'=true:=by
 cases v<;>simp only[oneV,bj]at a<;>simp only[VR]at h<;>first
  | (rcases h with⟨_,_,rfl⟩ | ⟨_,_,rfl⟩<;>rfl)
  | (rcases h with⟨_,_,_,_,_,_,rfl⟩ | ⟨_,_,_,rfl⟩<;>rfl)
  | (subst h;rfl)
  | (obtain⟨b,h,_⟩:=h;obtain⟨_,_,_,e⟩:=zB _ b;rw[h,e];rfl)
  | (obtain⟨_,rfl,_⟩:=h;rfl)
  | (obtain⟨_,_,rfl⟩:=h;rfl)
  | (obtain⟨_,_,_,_,_,rfl⟩:=h;rfl)
  | exact h.2
def qI{ι:Inj}{H:List (Nat×Blk)}{nb b:Nat}{w:World}(i:WR ι H nb w){l:List V}(g:look H b=some (.cells l)):
  ∃r a e fr,ι b=some (some r)/\w.heap[r.r]?=some (.cells a e fr)/\VRs ι l a.toList/\NF fr a.size:=by
 obtain⟨r,o,f,h,a,e,fr,rfl,d,c⟩:=(i.blk b _ g (by simp)).real (by simp);exact⟨r,a,e,fr,f,h,d,c⟩
def vO{ι:Inj}{H:List (Nat×Blk)}{nb b:Nat}{w:World}(h:WR ι H nb w){k:IntKind}{n:Nat}{l:List Int}(f:look H b=some (.ints k n l)):
  ∃r e fr,ι b=some (some r)/\w.heap[r.r]?=some (.cells (l.map (Value.int k)).toArray e fr)/\l.length=n/\NF fr n:=by
 obtain⟨r,o,d,g,e,fr,rfl,c,a⟩:=(h.blk b _ f (by simp)).real (by simp);exact⟨r,e,fr,d,g,c,a⟩
def jp{ι:Inj}{H:List (Nat×Blk)}{nb b:Nat}{w:World}(h:WR ι H nb w){t:List Lf}{l:List (den t)}(g:look H b=some (.rows t l)):
  (∃r a e fr,ι b=some (some r)/\w.heap[r.r]?=some (.cells a e fr)/\l.length=r.n/\r.n<=r.k/\r.o+r.k*t.length<=a.size/\(a.toList.drop r.o).take (l.length*t.length)=l.flatMap (vals t)/\(r.fz=true\/NF fr a.size))\/
  (ι b=some none/\l=[]):=by
 rcases h.blk b _ g (by simp)with⟨r,o,d,f,a,e,fr,rfl,c⟩ | ⟨d,i,f⟩
 ·exact .inl ⟨r,a,e,fr,d,f,c⟩
 ·injection f with c h4;subst c;exact .inr ⟨d,eq_of_heq h4⟩
def nX{t:List Lf}:∀(l:List (den t)),(l.flatMap (vals t)).length=l.length*t.length
 | []=>by simp
 | x::l=>by simp[qK,jN,nX l,gY,pD]
def Jy{t:List Lf}:∀(l:List (den t)) (j:Nat) (x:den t),l[j]?=some x->((l.flatMap (vals t)).drop (j*t.length)).take t.length=vals t x
 | [],j,x,h=>by simp at h
 | y::l,0,x,h=>by
  simp only[mC,ar]at h;subst h;simp only[A7,bI,qK];rw[uC (by rw[jN];exact aQ _),iR (by rw[jN];exact aQ _)]
 | y::l,j+1,x,h=>by
  simp only[Gj]at h;simp only[qK];rw[show(j+1)*t.length=(vals t y).length+j*t.length by rw[jN,gY];omega,GW,iU (by omega)];simp only[Fg,dI];exact Jy l j x h
def QK{t:List Lf}{l:List (den t)}{e:Array Value}{o:Nat}(h:(e.toList.drop o).take (l.length*t.length)=l.flatMap (vals t)){j:Nat}{x:den t}(a:l[j]?=some x):
  (e.toList.drop (o+j*t.length)).take t.length=vals t x/\j*t.length+t.length<=l.length*t.length:=by
 have c:j<l.length:=by
  rcases aF j l.length with d | d
  ·exact d
  ·rw[gU d]at a;cases a
 have b:j*t.length+t.length<=l.length*t.length:=by
  have:=n8 t.length (show j+1<=l.length from c);rw[gY]at this;omega
 refine⟨?_,b⟩;have f:=Jy l j x a;rw[<-h,xW,Ad,sO (by omega),i7]at f;exact f
def oh{t:TypeId}{d:TypeDesc}(hd:P.underlying t=some d)(b:bU P t=false){w:World}{r o:Nat}{a:Array Value}{e:TypeId}{fr:Nat×Nat}
  (h:w.heap[r]?=some (.cells a e fr)) {x:Value} (hx:a[o]?=some x):(Instr.loadAt t (.pointer (some ⟨r,o,none⟩))).run P w=.ok x w:=by
 simp only[Instr.loadAt,Instr.sureAddr,loadVar,aw,aB,ay,kl hd,b,bj,az,run_load,bB h,hx]
def oi{t:TypeId}{d:TypeDesc}(hd:P.underlying t=some d)(k:bU P t=true){w:World}{r o:Nat}{a:Array Value}{e:TypeId}{fr:Nat×Nat}
  (h:w.heap[r]?=some (.cells a e fr)) (m:o+P.cellsOf t<=a.size):
  (Instr.loadAt t (.pointer (some ⟨r,o,none⟩))).run P w=.ok (.agg ((a.toList.drop o).take (P.cellsOf t)).toArray) w:=by
 obtain⟨i,hi⟩:=m8 hd;have b:((a.toList.drop o).take (P.cellsOf t)).length=P.cellsOf t:=by simp;omega
 have hc:=wJ (P:=P) w ⟨r,o,none⟩ ((a.toList.drop o).take (P.cellsOf t)) (λj v c=>by
  have f:j<P.cellsOf t:=by
   rcases aF j (P.cellsOf t)with g | g
   ·exact g
   ·rw[gU (by omega)]at c;cases c
  rw[qm f,nv]at c;have:(⟨r,o,none⟩:Addr).add j=⟨r,o+j,none⟩:=by
   unfold Addr.add;split
   ·rename_i l;subst l;rfl
   ·rfl
  rw[this,bB h];simpa using c)
 rw[b]at hc;simp only[Instr.loadAt,Instr.sureAddr,loadVar,aw,aB,ay,kl hd,k,aG,f9 hi,hc]
def zk{α:Type}{ι:Inj}{H:List (Nat×Blk)}{nb b o:Nat}{w:World}(m:WR ι H nb w){blk:Blk}(l:look H b=some blk){t:TypeId}{d:TypeDesc}
  (hd:P.underlying t=some d) (n:bU P t=true) {c:V->Option α} {z:α} (h:pu P t blk o c=some z):
  ∃v x r,c v=some z/\ι b=some (some r)/\(Instr.loadAt t (.pointer (some ⟨r.r,o,none⟩))).run P w=.ok x w/\VR ι v x:=by
 unfold pu at h;split at h
 ·split at h
  ·rename_i g;have hle':=aH g;obtain⟨r,k,e,fr,i,j,f,q⟩:=qI m l;have s:=f.length;have hsz':k.size=k.toList.length:=by simp
   exact⟨_,_,r,h,i,oi hd n j (by omega),o7 (by simpa using(f.drop o).take _)⟩
  ·cases h
 ·split at h
  ·rename_i a;simp only[aC,jn]at a;obtain⟨rfl,p⟩:=a;obtain⟨r,e,fr,i,j,f,q⟩:=vO m l;refine⟨_,_,r,h,i,oi hd n j (by simp;omega),?_⟩;simp only[VR];refine⟨f,?_⟩;rw[Value.agg.injEq];apply mS;simp only[bI];exact iR (by simp;omega)
  ·cases h
 ·cases h
def VC{k:IntKind}{l:List V}{o:Nat}{n:Int}(h:(l.map (tI k))[o]?=some (some n)):l[o]?=some (.i k n):=by
 rw[pR]at h;cases a:l[o]? with
 | none=>rw[a]at h;cases h
 | some v=>
  rw[a]at h;simp only[fi,ar]at h;unfold tI at h;split at h
  ·split at h
   ·rename_i b;rw[k9 b];simp only[ar]at h;rw[h]
   ·cases h
  ·cases h
def HE{α:Type}{ι:Inj}{H:List (Nat×Blk)}{nb b o:Nat}{w:World}(p:WR ι H nb w){blk:Blk}(g:look H b=some blk){t:TypeId}
  {c:V->Option α} {z:α} (h:yv P t blk o c=some z):
  ∃v x r,c v=some z/\ι b=some (some r)/\(Instr.loadAt t (.pointer (some ⟨r.r,o,none⟩))).run P w=.ok x w/\VR ι v x:=by
 have one:∀{d:TypeDesc} {l:List V} {v:V},P.underlying t=some d->bU P t=false->look H b=some (.cells l)->l[o]?=some v->c v=some z->
   ∃v x r,c v=some z/\ι b=some (some r)/\(Instr.loadAt t (.pointer (some ⟨r.r,o,none⟩))).run P w=.ok x w/\VR ι v x:=by
  intro d l v hd i g C hc;obtain⟨r,E,e,fr,f,a,u,y⟩:=qI p g;obtain⟨x,hx,s⟩:=u.get C;exact⟨v,x,r,hc,f,oh hd i a (by simpa using hx),s⟩
 unfold yv at h;split at h
 ·rename_i F hd;exact zk p g hd (by simp[bU,hd]) h
 ·rename_i n e hd;exact zk p g hd (by simp[bU,hd]) h
 ·rename_i k hd;have i:bU P t=false:=by simp[bU,hd]
  split at h
  ·split at h
   ·rename_i B j;obtain⟨n,f,a⟩:=av h;exact one hd i g (by rw[t7 j];simp[f]) a
   ·obtain⟨q,f,a⟩:=av h;obtain⟨n,rfl,a⟩:=av a;exact one hd i g (VC f) a
  ·rename_i k' n l;obtain⟨m,f,a⟩:=av h;obtain⟨r,e,fr,D,A,G,I⟩:=vO p g;exact⟨_,.int k' m,r,a,D,oh hd i A (by simp[f]),by simp[VR]⟩
  ·cases h
 ·rename_i hd;have i:bU P t=false:=by simp[bU,hd]
  split at h
  ·split at h
   ·rename_i B j;obtain⟨n,f,a⟩:=av h;exact one hd i g (by rw[sZ j];simp[f]) a
   ·obtain⟨v,f,a⟩:=av h;exact one hd i g f a
  ·cases h
 ·rename_i d f a u y hd;have i:bU P t=false:=by
   simp only[bU,hd];cases d<;>simp_all
  split at h
  ·obtain⟨v,f,a⟩:=av h;exact one hd i g f a
  ·cases h
 ·cases h
def N6{α:Type}{ι:Inj}{w:World}{r o base:Nat}{j:Array Value}{e:TypeId}{fr:Nat×Nat}{l:List V}(A:w.heap[r]?=some (.cells j e fr))
  (B:VRs ι l ((j.toList.drop base).take l.length)) (C:base+l.length<=j.size) {t:TypeId} {c:V->Option α} {z:α} (h:yv P t (.cells l) o c=some z):
  ∃v x,c v=some z/\(Instr.loadAt t (.pointer (some ⟨r,base+o,none⟩))).run P w=.ok x w/\VR ι v x:=by
 have one:∀{d:TypeDesc} {v:V},P.underlying t=some d->bU P t=false->l[o]?=some v->c v=some z->
   ∃v x,c v=some z/\(Instr.loadAt t (.pointer (some ⟨r,base+o,none⟩))).run P w=.ok x w/\VR ι v x:=by
  intro d v hd b p hc;obtain⟨x,hx,y⟩:=B.get p;have s:o<l.length:=by
   rcases aF o l.length with u | u
   ·exact u
   ·rw[gU u]at p;cases p
  rw[qm s,nv]at hx;exact⟨v,x,hc,oh hd b A (by simpa using hx),y⟩
 have i:∀{d:TypeDesc},P.underlying t=some d->bU P t=true->pu P t (.cells l) o c=some z->
   ∃v x,c v=some z/\(Instr.loadAt t (.pointer (some ⟨r,base+o,none⟩))).run P w=.ok x w/\VR ι v x:=by
  intro d hd b h;simp only[pu]at h;split at h
  ·rename_i m;have hle':=aH m;refine⟨_,_,h,oi hd b A (by omega),o7 ?_⟩;have:=(B.drop o).take (P.cellsOf t);rw[xW,i7,Ad,sO (by omega)]at this;simpa using this
  ·cases h
 unfold yv at h;split at h
 ·rename_i G hd;exact i hd (by simp[bU,hd]) h
 ·rename_i n e hd;exact i hd (by simp[bU,hd]) h
 ·rename_i k hd;have b:bU P t=false:=by simp[bU,hd]
  simp only at h;split at h
  ·rename_i D g;obtain⟨n,f,a⟩:=av h;exact one hd b (by rw[t7 g];simp[f]) a
  ·obtain⟨q,f,a⟩:=av h;obtain⟨n,rfl,a⟩:=av a;exact one hd b (VC f) a
 ·rename_i hd;have b:bU P t=false:=by simp[bU,hd]
  simp only at h;split at h
  ·rename_i D g;obtain⟨n,f,a⟩:=av h;exact one hd b (by rw[sZ g];simp[f]) a
  ·obtain⟨v,f,a⟩:=av h;exact one hd b f a
 ·rename_i d f a F E hd;have b:bU P t=false:=by
   simp only[bU,hd];cases d<;>simp_all
  simp only at h;obtain⟨v,f,a⟩:=av h;exact one hd b f a
 ·cases h
def Lf.inV_ok:∀{a:Lf} {v:V} {x:a.den},a.inV v=some x->v=a.toV x
 | .i k,v,x,h=>by
  cases v<;>simp only[Lf.inV]at h<;>try cases h
  split at h
  ·rename_i C;simp only[ar]at h;subst h;rw[k9 C];rfl
  ·cases h
 | .bo,v,x,h=>by cases v<;>simp only[Lf.inV]at h<;>cases h;rfl
 | .s,v,x,h=>by cases v<;>simp only[Lf.inV]at h<;>cases h;rfl
def vR:∀{t:List Lf} {l:List V} {x:den t},wc t l=some x->l=cells t x
 | [],[],_,_=>rfl
 | [],_::_,_,h=>by simp[wc]at h
 | [a],[],_,h=>by simp[wc]at h
 | [a],[v],x,h=>by
  simp only[wc]at h;rw[Lf.inV_ok h];rfl
 | [a],_::_::_,_,h=>by simp[wc]at h
 | a::b::t,[],_,h=>by simp[wc]at h
 | a::b::t,v::vs,x,h=>by
  simp only[wc]at h;split at h
  ·rename_i y hy;split at h
   ·rename_i d c;simp only[ar]at h;subst h;rw[Lf.inV_ok hy,vR c];rfl
   ·cases h
  ·cases h
def Ci{t:List Lf}:∀{n:Nat} {l:List V} {m:List (den t)},CB t t.length n l=some m->l.length=n*t.length->m.length=n/\l=m.flatMap (cells t)
 | 0,l,m,h,a=>by
  simp only[CB,ar]at h;subst h;exact⟨rfl,by simpa using a⟩
 | n+1,l,m,h,a=>by
  simp only[CB]at h;split at h
  ·rename_i x hx;split at h
   ·rename_i m' b;simp only[ar]at h;subst h;rw[gY]at a;obtain⟨c,d⟩:=Ci b (by rw[ba];omega);refine⟨by simp[c],?_⟩;rw[qK,<-vR hx,<-d,uF]
   ·cases h
  ·cases h
def GP(ι:Inj){t:List Lf}:∀(m:List (den t)) (ys:List Value),VRs ι (m.flatMap (cells t)) ys->ys=m.flatMap (vals t)
 | [],ys,h=>by simpa[VRs]using h
 | x::m,ys,h=>by
  rw[qK]at h ⊢;have b:=h.take t.length;have a:=h.drop t.length;rw[uC (by rw[kS];exact aQ _),iR (by rw[kS];exact aQ _)]at b;rw[GW,iU (by rw[kS];exact aQ _),kS]at a;simp only[Nat.sub_self,bI,dI]at a;rw[<-(nQ ι t x _).1 b,<-GP ι m _ a,uF]
end Go.Abs
