/- What the abstract effect of an operation says of the model's own operation: the parts of it.
   Conditions: none; generic over the program. -/
import Derived.Test.YtpkdacjndoiabaaGreatDoorAbsB
import Derived.Laws.Entries
import Derived.Laws.Cells
set_option linter.unusedSimpArgs false
namespace Go.Abs
variable {P:Program}
theorem mM {t:TypeId} {d:TypeDesc} (h:P.underlying t=some d):∃i,P.info? t=some i:=by
 unfold Program.underlying at h
 cases hi:P.info? t with
 | none=>simp [hi] at h
 | some i=>exact ⟨i,rfl⟩
theorem bU {t:TypeId} (h:Nat.blt 0 (P.cellsOf t)=true):∃i,P.info? t=some i:=by
 unfold Program.cellsOf at h
 cases hi:P.info? t with
 | none=>simp [hi] at h
 | some i=>exact ⟨i,rfl⟩
theorem fV {t:TypeId} {i:TypeInfo} (h:P.info? t=some i) (w:World):(sizeOf t).run P w=.ok (P.cellsOf t) w:=by
 simp [sizeOf,typeInfo,h,Program.cellsOf]
theorem jT {t:TypeId} {d:TypeDesc} (h:P.underlying t=some d) (w:World):(isAgg t).run P w=.ok (bQ P t) w:=by
 unfold isAgg bQ
 rw [h]
 simp only [aw,aW h,ay]
 cases d<;>rfl
theorem Bz (ι:Inj) {x:Value} {v:V} (h:E8 x=some v):VR ι v x/\x.cells=#[x]/\oneV v=true:=by
 unfold E8 at h
 split at h<;>simp_all [Value.cells]
 all_goals (subst h;simp [VR,oneV,Value.cells,Value.oneCell'])
theorem yq (ι:Inj):∀{xs:List Value} {l:List V},vC xs=some l->VRs ι l xs
 | [],_,h=>by simp only [vC,aq] at h;subst h;simp [VRs]
 | x::xs,l,h=>by
  simp only [vC] at h
  split at h
  ·rename_i v hv
   split at h
   ·rename_i m hm
    simp only [aq] at h;subst h
    simp only [VRs]
    exact ⟨x,xs,rfl,(Bz ι hv).1,yq ι hm⟩
   ·cases h
  ·cases h
theorem Gy (ι:Inj) {x:Value} {v:V} (h:Ny x=some v):VR ι v x:=by
 unfold Ny at h
 split at h
 ·split at h
  ·rename_i hl
   simp only [aq] at h;subst h
   simp only [VR]
   exact ⟨_,rfl,yq ι hl⟩
  ·cases h
 ·exact (Bz ι h).1
theorem tU {k:IntKind}:∀{l:List V} {xs:List Int},yc k l=some xs->l=xs.map (V.i k)
 | [],_,h=>by simp only [yc,aq] at h;subst h;rfl
 | v::l,xs,h=>by
  unfold yc at h
  split at h<;>rename_i heq
  ·cases heq
  ·injection heq with h1 h2;subst h1 h2
   split at h
   ·rename_i hk
    split at h
    ·rename_i m hm
     simp only [aq] at h;subst h
     rw [tU hm,kG hk];rfl
    ·cases h
   ·cases h
  ·cases h
theorem sM:∀{l:List V} {xs:List (aa)},yS l=some xs->l=xs.map V.s
 | [],_,h=>by simp only [yS,aq] at h;subst h;rfl
 | v::l,xs,h=>by
  unfold yS at h
  split at h<;>rename_i heq
  ·cases heq
  ·injection heq with h1 h2;subst h1 h2
   split at h
   ·rename_i m hm
    simp only [aq] at h;subst h
    rw [sM hm];rfl
   ·cases h
  ·cases h
theorem VRs.of_ints {ι:Inj} {k:IntKind}:∀{xs:List Int} {vs:List Value},VRs ι (xs.map (V.i k)) vs->vs=xs.map (Value.int k)
 | [],_,h=>by simpa [VRs] using h
 | x::xs,vs,h=>by
  simp only [fE,VRs,VR] at h
  obtain ⟨y,ys,rfl,rfl,h3⟩:=h
  simp [VRs.of_ints h3]
theorem pB {ι:Inj} {t:TypeId} {l:List V} {cs:Array Value} (h:VRs ι l cs.toList):VR ι (Cd P t l) (.agg cs):=by
 unfold Cd
 split
 ·split
  ·rename_i hx
   rw [tU hx] at h
   simp only [VR,js]
   have:=VRs.of_ints h
   rw [Value.agg.injEq]
   apply lP
   simpa using this
  ·simp only [VR];exact ⟨cs,rfl,h⟩
 ·simp only [VR];exact ⟨cs,rfl,h⟩
theorem Qf {ι:Inj} {t:TypeId} {v:V} {x:Value} (h:VR ι v x):VR ι (norm P t v) x:=by
 cases v<;>simp only [norm]<;>try exact h
 simp only [VR] at h
 obtain ⟨cs,rfl,h⟩:=h
 exact pB h
theorem rX (n:Nat):NF (0,0) n:=by
 intro j _ h
 simp at h
theorem E9 {ι:Inj} {q:Rf} {v:V} {x:Value} (h:VR ι v x) (t:TypeId):BR ι q (LK v) (.cells x.cells t):=by
 have one:∀{v:V} {x:Value},VR ι v x->x.cells=#[x]->BR ι q (.cells [v]) (.cells x.cells t):=by
  intro v x h hx
  rw [hx]
  exact ⟨_,_,_,rfl,by simp only [VRs];exact ⟨x,[],rfl,h,rfl⟩,rX _⟩
 cases v with
 | ag l=>
  simp only [VR] at h
  obtain ⟨cs,rfl,h⟩:=h
  exact ⟨cs,t,(0,0),rfl,h,rX _⟩
 | ai k n l=>
  simp only [VR] at h
  obtain ⟨h1,rfl⟩:=h
  exact ⟨t,(0,0),rfl,h1,rX _⟩
 | _=>
  simp only [LK]
  refine one h ?_
  simp only [VR] at h
  first
   | (rcases h with ⟨_,_,rfl⟩ | ⟨_,_,rfl⟩<;>rfl)
   | (rcases h with ⟨_,_,_,_,_,_,rfl⟩ | ⟨_,_,_,rfl⟩<;>rfl)
   | (subst h;rfl)
   | (obtain ⟨cs,h,_⟩:=h;obtain ⟨_,_,_,e⟩:=ye _ cs;rw [h,e];rfl)
   | (obtain ⟨_,rfl,_⟩:=h;rfl)
   | (obtain ⟨_,_,rfl⟩:=h;rfl)
   | (obtain ⟨_,_,_,_,_,rfl⟩:=h;rfl)
   | exact h.1
theorem wI (k:IntKind) (l:List Int):∀(n j:Nat),sV k l n j=(List.range n).map λi=>V.i k (l.getD (j+i) 0)
 | 0,_=>rfl
 | n+1,j=>by
  simp only [sV,wI k l n (j+1),List.range_succ_eq_map,fE,rW,cD]
  congr 1
  apply List.map_congr_left
  intro i _
  simp [gO,oS 1 i]
theorem BI (k:IntKind) {l:List Int} {n:Nat} (h:l.length=n):sV k l n 0=l.map (V.i k):=by
 rw [wI]
 apply Cm
 intro i
 by_cases hi:i<n
 ·simp [hi,h▸hi,List.getD]
 ·simp [hi,gU (Nat.le_of_not_lt (h▸hi))]
theorem mT {ι:Inj} {v:V} {x:Value} (h:VR ι v x):VRs ι (cellsOf v) x.cells.toList:=by
 have one:∀{v:V} {x:Value},VR ι v x->x.cells=#[x]->VRs ι [v] x.cells.toList:=by
  intro v x h hx
  rw [hx]
  simp only [VRs];exact ⟨x,[],rfl,h,rfl⟩
 cases v with
 | ag l=>
  simp only [VR] at h
  obtain ⟨cs,rfl,h⟩:=h
  exact h
 | ai k n l=>
  simp only [VR] at h
  obtain ⟨h1,rfl⟩:=h
  simp only [cellsOf,BI k h1,Value.cells]
  exact VRs.ints k l
 | _=>
  simp only [cellsOf]
  refine one h ?_
  simp only [VR] at h
  first
   | (rcases h with ⟨_,_,rfl⟩ | ⟨_,_,rfl⟩<;>rfl)
   | (rcases h with ⟨_,_,_,_,_,_,rfl⟩ | ⟨_,_,_,rfl⟩<;>rfl)
   | (subst h;rfl)
   | (obtain ⟨cs,h,_⟩:=h;obtain ⟨_,_,_,e⟩:=ye _ cs;rw [h,e];rfl)
   | (obtain ⟨_,rfl,_⟩:=h;rfl)
   | (obtain ⟨_,_,rfl⟩:=h;rfl)
   | (obtain ⟨_,_,_,_,_,rfl⟩:=h;rfl)
   | exact h.1
theorem bn {ι:Inj} {T:List (Nat×Option V)} {a:Act} (ht:TR ι T a.tmps) {x:Operand} {v:V} (h:opd T x=some v):VR ι v (a.eval x):=by
 cases x with
 | tmp t=>
  simp only [opd] at h
  split at h
  ·rename_i u hu
   simp only [aq] at h;subst h
   obtain ⟨y,h1,h2⟩:=ht t u hu
   simpa [Act.eval,qc,h1] using h2
  ·cases h
 | const c=>exact Gy ι h
 | func f=>
  simp only [opd] at h
  split at h
  ·rename_i hb
   simp only [aq] at h;subst h
   simp only [VR,Act.eval]
   exact ⟨#[],(Ey hb _).symm,by simp [VRs]⟩
  ·cases h
 | global g=>simp [opd] at h
theorem wX {ι:Inj} {T:List (Nat×Option V)} {a:Act} (ht:TR ι T a.tmps):∀{xs:List Operand} {l:List V},opds (opd T) xs=some l->VRs ι l (xs.map a.eval)
 | [],_,h=>by simp only [opds,aq] at h;subst h;simp [VRs]
 | x::xs,l,h=>by
  simp only [opds] at h
  split at h
  ·rename_i v hv
   split at h
   ·rename_i m hm
    simp only [aq] at h;subst h
    simp only [fE,VRs]
    exact ⟨_,_,rfl,bn ht hv,wX ht hm⟩
   ·cases h
  ·cases h
theorem BE {ι:Inj} {v:V} {x:Value} (h:VR ι v x) (ho:oneV v=true):x.oneCell'=true:=by
 cases v<;>simp only [oneV,bP] at ho<;>simp only [VR] at h<;>first
  | (rcases h with ⟨_,_,rfl⟩ | ⟨_,_,rfl⟩<;>rfl)
  | (rcases h with ⟨_,_,_,_,_,_,rfl⟩ | ⟨_,_,_,rfl⟩<;>rfl)
  | (subst h;rfl)
  | (obtain ⟨cs,h,_⟩:=h;obtain ⟨_,_,_,e⟩:=ye _ cs;rw [h,e];rfl)
  | (obtain ⟨_,rfl,_⟩:=h;rfl)
  | (obtain ⟨_,_,rfl⟩:=h;rfl)
  | (obtain ⟨_,_,_,_,_,rfl⟩:=h;rfl)
  | exact h.2
theorem qH {ι:Inj} {H:List (Nat×Blk)} {nb b:Nat} {w:World} (hW:WR ι H nb w) {l:List V} (hl:look H b=some (.cells l)):
  ∃r cs e fr,ι b=some (some r)/\w.heap[r.r]?=some (.cells cs e fr)/\VRs ι l cs.toList/\NF fr cs.size:=by
 obtain ⟨r,o,h1,h2,cs,e,fr,rfl,h3,h4⟩:=(hW.blk b _ hl (by simp)).real (by simp)
 exact ⟨r,cs,e,fr,h1,h2,h3,h4⟩
theorem vb {ι:Inj} {H:List (Nat×Blk)} {nb b:Nat} {w:World} (hW:WR ι H nb w) {k:IntKind} {n:Nat} {l:List Int} (hl:look H b=some (.ints k n l)):
  ∃r e fr,ι b=some (some r)/\w.heap[r.r]?=some (.cells (l.map (Value.int k)).toArray e fr)/\l.length=n/\NF fr n:=by
 obtain ⟨r,o,h1,h2,e,fr,rfl,h3,h4⟩:=(hW.blk b _ hl (by simp)).real (by simp)
 exact ⟨r,e,fr,h1,h2,h3,h4⟩
theorem jh {ι:Inj} {H:List (Nat×Blk)} {nb b:Nat} {w:World} (hW:WR ι H nb w) {t:List Lf} {l:List (den t)} (hl:look H b=some (.rows t l)):
  (∃r cs e fr,ι b=some (some r)/\w.heap[r.r]?=some (.cells cs e fr)/\l.length=r.n/\r.n<=r.k/\r.o+r.k*t.length<=cs.size/\(cs.toList.drop r.o).take (l.length*t.length)=l.flatMap (vals t)/\(r.fz=true\/NF fr cs.size))\/
  (ι b=some none/\l=[]):=by
 rcases hW.blk b _ hl (by simp) with ⟨r,o,h1,h2,cs,e,fr,rfl,h3⟩ | ⟨h1,t',h2⟩
 ·exact .inl ⟨r,cs,e,fr,h1,h2,h3⟩
 ·injection h2 with h3 h4
  subst h3
  exact .inr ⟨h1,eq_of_heq h4⟩
theorem nK {t:List Lf}:∀(l:List (den t)),(l.flatMap (vals t)).length=l.length*t.length
 | []=>by simp
 | x::l=>by simp [pQ,jL,nK l,gL,oS]
theorem Ia {t:List Lf}:∀(l:List (den t)) (j:Nat) (x:den t),l[j]?=some x->((l.flatMap (vals t)).drop (j*t.length)).take t.length=vals t x
 | [],j,x,h=>by simp at h
 | y::l,0,x,h=>by
  simp only [lD,aq] at h;subst h
  simp only [Ap,gy,pQ]
  rw [uu (by rw [jL];exact aV _),iP (by rw [jL];exact aV _)]
 | y::l,j+1,x,h=>by
  simp only [EX] at h
  simp only [pQ]
  rw [show (j+1)*t.length=(vals t y).length+j*t.length by rw [jL,gL];omega,FB,jo (by omega)]
  simp only [Df,dQ]
  exact Ia l j x h
theorem OL {t:List Lf} {l:List (den t)} {cs:Array Value} {o:Nat} (h:(cs.toList.drop o).take (l.length*t.length)=l.flatMap (vals t)) {j:Nat} {x:den t} (hj:l[j]?=some x):
  (cs.toList.drop (o+j*t.length)).take t.length=vals t x/\j*t.length+t.length<=l.length*t.length:=by
 have hlt:j<l.length:=by
  rcases aG j l.length with h' | h'
  ·exact h'
  ·rw [gU h'] at hj;cases hj
 have hle:j*t.length+t.length<=l.length*t.length:=by
  have:=nX t.length (show j+1<=l.length from hlt)
  rw [gL] at this;omega
 refine ⟨?_,hle⟩
 have h2:=Ia l j x hj
 rw [<-h,wW,AI,sd (by omega),kR] at h2
 exact h2
theorem nR {t:TypeId} {d:TypeDesc} (hd:P.underlying t=some d) (hn:bQ P t=false) {w:World} {r o:Nat} {cs:Array Value} {e:TypeId} {fr:Nat×Nat}
  (h:w.heap[r]?=some (.cells cs e fr)) {x:Value} (hx:cs[o]?=some x):(Instr.loadAt t (.pointer (some ⟨r,o,none⟩))).run P w=.ok x w:=by
 simp only [Instr.loadAt,Instr.sureAddr,loadVar,aw,aA,ay,jT hd,hn,bP,aE,run_load,bH h,hx]
theorem nS {t:TypeId} {d:TypeDesc} (hd:P.underlying t=some d) (hn:bQ P t=true) {w:World} {r o:Nat} {cs:Array Value} {e:TypeId} {fr:Nat×Nat}
  (h:w.heap[r]?=some (.cells cs e fr)) (hl:o+P.cellsOf t<=cs.size):
  (Instr.loadAt t (.pointer (some ⟨r,o,none⟩))).run P w=.ok (.agg ((cs.toList.drop o).take (P.cellsOf t)).toArray) w:=by
 obtain ⟨i,hi⟩:=mM hd
 have hlen:((cs.toList.drop o).take (P.cellsOf t)).length=P.cellsOf t:=by simp;omega
 have hc:=wR (P:=P) w ⟨r,o,none⟩ ((cs.toList.drop o).take (P.cellsOf t)) (λj v hj=>by
  have hjl:j<P.cellsOf t:=by
   rcases aG j (P.cellsOf t) with h' | h'
   ·exact h'
   ·rw [gU (by omega)] at hj;cases hj
  rw [pN hjl,mn] at hj
  have:(⟨r,o,none⟩:Addr).add j=⟨r,o+j,none⟩:=by
   unfold Addr.add;split
   ·rename_i h0;subst h0;rfl
   ·rfl
  rw [this,bH h]
  simpa using hj)
 rw [hlen] at hc
 simp only [Instr.loadAt,Instr.sureAddr,loadVar,aw,aA,ay,jT hd,hn,aQ,fV hi,hc]
theorem yH {α:Type} {ι:Inj} {H:List (Nat×Blk)} {nb b o:Nat} {w:World} (hW:WR ι H nb w) {blk:Blk} (hl:look H b=some blk) {t:TypeId} {d:TypeDesc}
  (hd:P.underlying t=some d) (hn:bQ P t=true) {c:V->Option α} {z:α} (h:pf P t blk o c=some z):
  ∃v x r,c v=some z/\ι b=some (some r)/\(Instr.loadAt t (.pointer (some ⟨r.r,o,none⟩))).run P w=.ok x w/\VR ι v x:=by
 unfold pf at h
 split at h
 ·split at h
  ·rename_i hle
   have hle':=aI hle
   obtain ⟨r,cs,e,fr,h1,h2,h3,h4⟩:=qH hW hl
   have hsz:=h3.length
   have hsz':cs.size=cs.toList.length:=by simp
   exact ⟨_,_,r,h,h1,nS hd hn h2 (by omega),pB (by simpa using (h3.drop o).take _)⟩
  ·cases h
 ·split at h
  ·rename_i hbb
   simp only [az,iV] at hbb
   obtain ⟨rfl,hn'⟩:=hbb
   obtain ⟨r,e,fr,h1,h2,h3,h4⟩:=vb hW hl
   refine ⟨_,_,r,h,h1,nS hd hn h2 (by simp;omega),?_⟩
   simp only [VR]
   refine ⟨h3,?_⟩
   rw [Value.agg.injEq]
   apply lP
   simp only [gy]
   exact iP (by simp;omega)
  ·cases h
 ·cases h
theorem RD {k:IntKind} {l:List V} {o:Nat} {n:Int} (h:(l.map (tI k))[o]?=some (some n)):l[o]?=some (.i k n):=by
 rw [my] at h
 cases hv:l[o]? with
 | none=>rw [hv] at h;cases h
 | some v=>
  rw [hv] at h
  simp only [eK,aq] at h
  unfold tI at h
  split at h
  ·split at h
   ·rename_i hk
    rw [kG hk]
    simp only [aq] at h
    rw [h]
   ·cases h
  ·cases h
theorem Gx {α:Type} {ι:Inj} {H:List (Nat×Blk)} {nb b o:Nat} {w:World} (hW:WR ι H nb w) {blk:Blk} (hl:look H b=some blk) {t:TypeId}
  {c:V->Option α} {z:α} (h:xQ P t blk o c=some z):
  ∃v x r,c v=some z/\ι b=some (some r)/\(Instr.loadAt t (.pointer (some ⟨r.r,o,none⟩))).run P w=.ok x w/\VR ι v x:=by
 have one:∀{d:TypeDesc} {l:List V} {v:V},P.underlying t=some d->bQ P t=false->look H b=some (.cells l)->l[o]?=some v->c v=some z->
   ∃v x r,c v=some z/\ι b=some (some r)/\(Instr.loadAt t (.pointer (some ⟨r.r,o,none⟩))).run P w=.ok x w/\VR ι v x:=by
  intro d l v hd hn hl hv hc
  obtain ⟨r,cs,e,fr,h1,h2,h3,h4⟩:=qH hW hl
  obtain ⟨x,hx,hvx⟩:=h3.get hv
  exact ⟨v,x,r,hc,h1,nR hd hn h2 (by simpa using hx),hvx⟩
 unfold xQ at h
 split at h
 ·rename_i fs hd
  exact yH hW hl hd (by simp [bQ,hd]) h
 ·rename_i n e hd
  exact yH hW hl hd (by simp [bQ,hd]) h
 ·rename_i k hd
  have hn:bQ P t=false:=by simp [bQ,hd]
  split at h
  ·split at h
   ·rename_i xs hxs
    obtain ⟨n,h1,h2⟩:=av h
    exact one hd hn hl (by rw [tU hxs];simp [h1]) h2
   ·obtain ⟨q,h1,h2⟩:=av h
    obtain ⟨n,rfl,h2⟩:=av h2
    exact one hd hn hl (RD h1) h2
  ·rename_i k' n l
   obtain ⟨m,h1,h2⟩:=av h
   obtain ⟨r,e,fr,g1,g2,g3,g4⟩:=vb hW hl
   exact ⟨_,.int k' m,r,h2,g1,nR hd hn g2 (by simp [h1]),by simp [VR]⟩
  ·cases h
 ·rename_i hd
  have hn:bQ P t=false:=by simp [bQ,hd]
  split at h
  ·split at h
   ·rename_i xs hxs
    obtain ⟨n,h1,h2⟩:=av h
    exact one hd hn hl (by rw [sM hxs];simp [h1]) h2
   ·obtain ⟨v,h1,h2⟩:=av h
    exact one hd hn hl h1 h2
  ·cases h
 ·rename_i d h1 h2 h3 h4 hd
  have hn:bQ P t=false:=by
   simp only [bQ,hd]
   cases d<;>simp_all
  split at h
  ·obtain ⟨v,h1,h2⟩:=av h
   exact one hd hn hl h1 h2
  ·cases h
 ·cases h
theorem NA {α:Type} {ι:Inj} {w:World} {r o base:Nat} {cs:Array Value} {e:TypeId} {fr:Nat×Nat} {l:List V} (hh:w.heap[r]?=some (.cells cs e fr))
  (hl:VRs ι l ((cs.toList.drop base).take l.length)) (hlen:base+l.length<=cs.size) {t:TypeId} {c:V->Option α} {z:α} (h:xQ P t (.cells l) o c=some z):
  ∃v x,c v=some z/\(Instr.loadAt t (.pointer (some ⟨r,base+o,none⟩))).run P w=.ok x w/\VR ι v x:=by
 have one:∀{d:TypeDesc} {v:V},P.underlying t=some d->bQ P t=false->l[o]?=some v->c v=some z->
   ∃v x,c v=some z/\(Instr.loadAt t (.pointer (some ⟨r,base+o,none⟩))).run P w=.ok x w/\VR ι v x:=by
  intro d v hd hn hv hc
  obtain ⟨x,hx,hvx⟩:=hl.get hv
  have hlt:o<l.length:=by
   rcases aG o l.length with h' | h'
   ·exact h'
   ·rw [gU h'] at hv;cases hv
  rw [pN hlt,mn] at hx
  exact ⟨v,x,hc,nR hd hn hh (by simpa using hx),hvx⟩
 have agg:∀{d:TypeDesc},P.underlying t=some d->bQ P t=true->pf P t (.cells l) o c=some z->
   ∃v x,c v=some z/\(Instr.loadAt t (.pointer (some ⟨r,base+o,none⟩))).run P w=.ok x w/\VR ι v x:=by
  intro d hd hn h
  simp only [pf] at h
  split at h
  ·rename_i hle
   have hle':=aI hle
   refine ⟨_,_,h,nS hd hn hh (by omega),pB ?_⟩
   have:=(hl.drop o).take (P.cellsOf t)
   rw [wW,kR,AI,sd (by omega)] at this
   simpa using this
  ·cases h
 unfold xQ at h
 split at h
 ·rename_i fs hd
  exact agg hd (by simp [bQ,hd]) h
 ·rename_i n e hd
  exact agg hd (by simp [bQ,hd]) h
 ·rename_i k hd
  have hn:bQ P t=false:=by simp [bQ,hd]
  simp only at h
  split at h
  ·rename_i xs hxs
   obtain ⟨n,h1,h2⟩:=av h
   exact one hd hn (by rw [tU hxs];simp [h1]) h2
  ·obtain ⟨q,h1,h2⟩:=av h
   obtain ⟨n,rfl,h2⟩:=av h2
   exact one hd hn (RD h1) h2
 ·rename_i hd
  have hn:bQ P t=false:=by simp [bQ,hd]
  simp only at h
  split at h
  ·rename_i xs hxs
   obtain ⟨n,h1,h2⟩:=av h
   exact one hd hn (by rw [sM hxs];simp [h1]) h2
  ·obtain ⟨v,h1,h2⟩:=av h
   exact one hd hn h1 h2
 ·rename_i d h1 h2 h3 h4 hd
  have hn:bQ P t=false:=by
   simp only [bQ,hd]
   cases d<;>simp_all
  simp only at h
  obtain ⟨v,h1,h2⟩:=av h
  exact one hd hn h1 h2
 ·cases h
theorem Lf.inV_ok:∀{a:Lf} {v:V} {x:a.den},a.inV v=some x->v=a.toV x
 | .i k,v,x,h=>by
  cases v<;>simp only [Lf.inV] at h<;>try cases h
  split at h
  ·rename_i hk
   simp only [aq] at h;subst h
   rw [kG hk];rfl
  ·cases h
 | .bo,v,x,h=>by cases v<;>simp only [Lf.inV] at h<;>cases h;rfl
 | .s,v,x,h=>by cases v<;>simp only [Lf.inV] at h<;>cases h;rfl
theorem vp:∀{t:List Lf} {l:List V} {x:den t},vY t l=some x->l=cells t x
 | [],[],_,_=>rfl
 | [],_::_,_,h=>by simp [vY] at h
 | [a],[],_,h=>by simp [vY] at h
 | [a],[v],x,h=>by
  simp only [vY] at h
  rw [Lf.inV_ok h];rfl
 | [a],_::_::_,_,h=>by simp [vY] at h
 | a::b::t,[],_,h=>by simp [vY] at h
 | a::b::t,v::vs,x,h=>by
  simp only [vY] at h
  split at h
  ·rename_i y hy
   split at h
   ·rename_i y' hy'
    simp only [aq] at h;subst h
    rw [Lf.inV_ok hy,vp hy'];rfl
   ·cases h
  ·cases h
theorem BO {t:List Lf}:∀{n:Nat} {l:List V} {m:List (den t)},BS t t.length n l=some m->l.length=n*t.length->m.length=n/\l=m.flatMap (cells t)
 | 0,l,m,h,hl=>by
  simp only [BS,aq] at h;subst h
  exact ⟨rfl,by simpa using hl⟩
 | n+1,l,m,h,hl=>by
  simp only [BS] at h
  split at h
  ·rename_i x hx
   split at h
   ·rename_i m' hm
    simp only [aq] at h;subst h
    rw [gL] at hl
    obtain ⟨h1,h2⟩:=BO hm (by rw [co];omega)
    refine ⟨by simp [h1],?_⟩
    rw [pQ,<-vp hx,<-h2,zu]
   ·cases h
  ·cases h
theorem Fp (ι:Inj) {t:List Lf}:∀(m:List (den t)) (ys:List Value),VRs ι (m.flatMap (cells t)) ys->ys=m.flatMap (vals t)
 | [],ys,h=>by simpa [VRs] using h
 | x::m,ys,h=>by
  rw [pQ] at h ⊢
  have h1:=h.take t.length
  have h2:=h.drop t.length
  rw [uu (by rw [kv];exact aV _),iP (by rw [kv];exact aV _)] at h1
  rw [FB,jo (by rw [kv];exact aV _),kv] at h2
  simp only [zw,gy,dQ] at h2
  rw [<-(nu ι t x _).1 h1,<-Fp ι m _ h2,zu]
end Go.Abs
