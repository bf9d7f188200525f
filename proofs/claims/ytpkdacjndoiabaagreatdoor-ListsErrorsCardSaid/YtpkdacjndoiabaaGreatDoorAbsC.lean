/- What the abstract effect of an operation says of the model's own operation: the parts of it.
   Conditions: none; generic over the program. -/
import Derived.Test.YtpkdacjndoiabaaGreatDoorAbsB
import Derived.Laws.Entries
import Derived.Laws.Cells
set_option linter.unusedSimpArgs false
namespace Go.Abs
variable {P:Program}
theorem lI {t:TypeId} {d:TypeDesc} (h:P.underlying t=some d):∃i,P.info? t=some i:=by
 unfold Program.underlying at h
 cases hi:P.info? t with
 | none=>simp [hi] at h
 | some i=>exact ⟨i,rfl⟩
theorem bH {t:TypeId} (h:Nat.blt 0 (P.cellsOf t)=true):∃i,P.info? t=some i:=by
 unfold Program.cellsOf at h
 cases hi:P.info? t with
 | none=>simp [hi] at h
 | some i=>exact ⟨i,rfl⟩
theorem eK {t:TypeId} {i:TypeInfo} (h:P.info? t=some i) (w:World):(sizeOf t).run P w=.ok (P.cellsOf t) w:=by
 simp [sizeOf,typeInfo,h,Program.cellsOf]
theorem i7 {t:TypeId} {d:TypeDesc} (h:P.underlying t=some d) (w:World):(isAgg t).run P w=.ok (bC P t) w:=by
 unfold isAgg bC
 rw [h]
 simp only [av,aS h,ax]
 cases d<;>rfl
theorem zH (ι:Inj) {x:Value} {v:V} (h:Ej x=some v):VR ι v x/\x.cells=#[x]/\oneV v=true:=by
 unfold Ej at h
 split at h<;>simp_all [Value.cells]
 all_goals (subst h;simp [VR,oneV,Value.cells,Value.oneCell'])
theorem wG (ι:Inj):∀{xs:List Value} {l:List V},uN xs=some l->VRs ι l xs
 | [],_,h=>by simp only [uN,am] at h;subst h;simp [VRs]
 | x::xs,l,h=>by
  simp only [uN] at h
  split at h
  ·rename_i v hv
   split at h
   ·rename_i m hm
    simp only [am] at h;subst h
    simp only [VRs]
    exact ⟨x,xs,rfl,(zH ι hv).1,wG ι hm⟩
   ·cases h
  ·cases h
theorem CS (ι:Inj) {x:Value} {v:V} (h:J6 x=some v):VR ι v x:=by
 unfold J6 at h
 split at h
 ·split at h
  ·rename_i hl
   simp only [am] at h;subst h
   simp only [VR]
   exact ⟨_,rfl,wG ι hl⟩
  ·cases h
 ·exact (zH ι h).1
theorem rA {k:IntKind}:∀{l:List V} {xs:List Int},wO k l=some xs->l=xs.map (V.i k)
 | [],_,h=>by simp only [wO,am] at h;subst h;rfl
 | v::l,xs,h=>by
  unfold wO at h
  split at h<;>rename_i heq
  ·cases heq
  ·injection heq with h1 h2;subst h1 h2
   split at h
   ·rename_i hk
    split at h
    ·rename_i m hm
     simp only [am] at h;subst h
     rw [rA hm,jn hk];rfl
    ·cases h
   ·cases h
  ·cases h
theorem qW:∀{l:List V} {xs:List (aa)},xy l=some xs->l=xs.map V.s
 | [],_,h=>by simp only [xy,am] at h;subst h;rfl
 | v::l,xs,h=>by
  unfold xy at h
  split at h<;>rename_i heq
  ·cases heq
  ·injection heq with h1 h2;subst h1 h2
   split at h
   ·rename_i m hm
    simp only [am] at h;subst h
    rw [qW hm];rfl
   ·cases h
  ·cases h
theorem VRs.of_ints {ι:Inj} {k:IntKind}:∀{xs:List Int} {vs:List Value},VRs ι (xs.map (V.i k)) vs->vs=xs.map (Value.int k)
 | [],_,h=>by simpa [VRs] using h
 | x::xs,vs,h=>by
  simp only [eV,VRs,VR] at h
  obtain ⟨y,ys,rfl,rfl,h3⟩:=h
  simp [VRs.of_ints h3]
theorem nK {ι:Inj} {t:TypeId} {l:List V} {cs:Array Value} (h:VRs ι l cs.toList):VR ι (Ax P t l) (.agg cs):=by
 unfold Ax
 split
 ·split
  ·rename_i hx
   rw [rA hx] at h
   simp only [VR,iY]
   have:=VRs.of_ints h
   rw [Value.agg.injEq]
   apply kx
   simpa using this
  ·simp only [VR];exact ⟨cs,rfl,h⟩
 ·simp only [VR];exact ⟨cs,rfl,h⟩
theorem Nj {ι:Inj} {t:TypeId} {v:V} {x:Value} (h:VR ι v x):VR ι (norm P t v) x:=by
 cases v<;>simp only [norm]<;>try exact h
 simp only [VR] at h
 obtain ⟨cs,rfl,h⟩:=h
 exact nK h
theorem qB (n:Nat):NF (0,0) n:=by
 intro j _ h
 simp at h
theorem C2 {ι:Inj} {q:Rf} {v:V} {x:Value} (h:VR ι v x) (t:TypeId):BR ι q (Jx v) (.cells x.cells t):=by
 have one:∀{v:V} {x:Value},VR ι v x->x.cells=#[x]->BR ι q (.cells [v]) (.cells x.cells t):=by
  intro v x h hx
  rw [hx]
  exact ⟨_,_,_,rfl,by simp only [VRs];exact ⟨x,[],rfl,h,rfl⟩,qB _⟩
 cases v with
 | ag l=>
  simp only [VR] at h
  obtain ⟨cs,rfl,h⟩:=h
  exact ⟨cs,t,(0,0),rfl,h,qB _⟩
 | ai k n l=>
  simp only [VR] at h
  obtain ⟨h1,rfl⟩:=h
  exact ⟨t,(0,0),rfl,h1,qB _⟩
 | _=>
  simp only [Jx]
  refine one h ?_
  simp only [VR] at h
  first
   | (rcases h with ⟨_,_,rfl⟩ | ⟨_,_,rfl⟩<;>rfl)
   | (rcases h with ⟨_,_,_,_,_,_,rfl⟩ | ⟨_,_,_,rfl⟩<;>rfl)
   | (subst h;rfl)
   | (obtain ⟨cs,h,_⟩:=h;obtain ⟨_,_,_,e⟩:=wE _ cs;rw [h,e];rfl)
   | (obtain ⟨_,rfl,_⟩:=h;rfl)
   | (obtain ⟨_,_,rfl⟩:=h;rfl)
   | (obtain ⟨_,_,_,_,_,rfl⟩:=h;rfl)
   | exact h.1
theorem vA (k:IntKind) (l:List Int):∀(n j:Nat),rl k l n j=(List.range n).map λi=>V.i k (l.getD (j+i) 0)
 | 0,_=>rfl
 | n+1,j=>by
  simp only [rl,vA k l n (j+1),List.range_succ_eq_map,eV,qF,eA]
  congr 1
  apply List.map_congr_left
  intro i _
  simp [gN,nT 1 i]
theorem Af (k:IntKind) {l:List Int} {n:Nat} (h:l.length=n):rl k l n 0=l.map (V.i k):=by
 rw [vA]
 apply wF
 intro i
 by_cases hi:i<n
 ·simp [hi,h▸hi,List.getD]
 ·simp [hi,eo (Nat.le_of_not_lt (h▸hi))]
theorem lP {ι:Inj} {v:V} {x:Value} (h:VR ι v x):VRs ι (cellsOf v) x.cells.toList:=by
 have one:∀{v:V} {x:Value},VR ι v x->x.cells=#[x]->VRs ι [v] x.cells.toList:=by
  intro v x h hx
  rw [hx]
  simp only [VRs];exact ⟨x,[],rfl,h,rfl⟩
 cases v with
 | ag l=>
  simp only [VR] at h
  obtain ⟨cs,rfl,h⟩:=h
  exact h
 | ai k n l=>
  simp only [VR] at h
  obtain ⟨h1,rfl⟩:=h
  simp only [cellsOf,Af k h1,Value.cells]
  exact VRs.ints k l
 | _=>
  simp only [cellsOf]
  refine one h ?_
  simp only [VR] at h
  first
   | (rcases h with ⟨_,_,rfl⟩ | ⟨_,_,rfl⟩<;>rfl)
   | (rcases h with ⟨_,_,_,_,_,_,rfl⟩ | ⟨_,_,_,rfl⟩<;>rfl)
   | (subst h;rfl)
   | (obtain ⟨cs,h,_⟩:=h;obtain ⟨_,_,_,e⟩:=wE _ cs;rw [h,e];rfl)
   | (obtain ⟨_,rfl,_⟩:=h;rfl)
   | (obtain ⟨_,_,rfl⟩:=h;rfl)
   | (obtain ⟨_,_,_,_,_,rfl⟩:=h;rfl)
   | exact h.1
theorem aZ {ι:Inj} {T:List (Nat×Option V)} {a:Act} (ht:TR ι T a.tmps) {x:Operand} {v:V} (h:opd T x=some v):VR ι v (a.eval x):=by
 cases x with
 | tmp t=>
  simp only [opd] at h
  split at h
  ·rename_i u hu
   simp only [am] at h;subst h
   obtain ⟨y,h1,h2⟩:=ht t u hu
   simpa [Act.eval,oY,h1] using h2
  ·cases h
 | const c=>exact CS ι h
 | func f=>
  simp only [opd] at h
  split at h
  ·rename_i hb
   simp only [am] at h;subst h
   simp only [VR,Act.eval]
   exact ⟨#[],(A6 hb _).symm,by simp [VRs]⟩
  ·cases h
 | global g=>simp [opd] at h
theorem wg {ι:Inj} {T:List (Nat×Option V)} {a:Act} (ht:TR ι T a.tmps):∀{xs:List Operand} {l:List V},opds (opd T) xs=some l->VRs ι l (xs.map a.eval)
 | [],_,h=>by simp only [opds,am] at h;subst h;simp [VRs]
 | x::xs,l,h=>by
  simp only [opds] at h
  split at h
  ·rename_i v hv
   split at h
   ·rename_i m hm
    simp only [am] at h;subst h
    simp only [eV,VRs]
    exact ⟨_,_,rfl,aZ ht hv,wg ht hm⟩
   ·cases h
  ·cases h
theorem zm {ι:Inj} {v:V} {x:Value} (h:VR ι v x) (ho:oneV v=true):x.oneCell'=true:=by
 cases v<;>simp only [oneV,ca] at ho<;>simp only [VR] at h<;>first
  | (rcases h with ⟨_,_,rfl⟩ | ⟨_,_,rfl⟩<;>rfl)
  | (rcases h with ⟨_,_,_,_,_,_,rfl⟩ | ⟨_,_,_,rfl⟩<;>rfl)
  | (subst h;rfl)
  | (obtain ⟨cs,h,_⟩:=h;obtain ⟨_,_,_,e⟩:=wE _ cs;rw [h,e];rfl)
  | (obtain ⟨_,rfl,_⟩:=h;rfl)
  | (obtain ⟨_,_,rfl⟩:=h;rfl)
  | (obtain ⟨_,_,_,_,_,rfl⟩:=h;rfl)
  | exact h.2
theorem ot {ι:Inj} {H:List (Nat×Blk)} {nb b:Nat} {w:World} (hW:WR ι H nb w) {l:List V} (hl:look H b=some (.cells l)):
  ∃r cs e fr,ι b=some (some r)/\w.heap[r.r]?=some (.cells cs e fr)/\VRs ι l cs.toList/\NF fr cs.size:=by
 obtain ⟨r,o,h1,h2,cs,e,fr,rfl,h3,h4⟩:=(hW.blk b _ hl (by simp)).real (by simp)
 exact ⟨r,cs,e,fr,h1,h2,h3,h4⟩
theorem ub {ι:Inj} {H:List (Nat×Blk)} {nb b:Nat} {w:World} (hW:WR ι H nb w) {k:IntKind} {n:Nat} {l:List Int} (hl:look H b=some (.ints k n l)):
  ∃r e fr,ι b=some (some r)/\w.heap[r.r]?=some (.cells (l.map (Value.int k)).toArray e fr)/\l.length=n/\NF fr n:=by
 obtain ⟨r,o,h1,h2,e,fr,rfl,h3,h4⟩:=(hW.blk b _ hl (by simp)).real (by simp)
 exact ⟨r,e,fr,h1,h2,h3,h4⟩
theorem ie {ι:Inj} {H:List (Nat×Blk)} {nb b:Nat} {w:World} (hW:WR ι H nb w) {t:List Lf} {l:List (den t)} (hl:look H b=some (.rows t l)):
  (∃r cs e fr,ι b=some (some r)/\w.heap[r.r]?=some (.cells cs e fr)/\l.length=r.n/\r.n<=r.k/\r.o+r.k*t.length<=cs.size/\(cs.toList.drop r.o).take (l.length*t.length)=l.flatMap (vals t)/\(r.fz=true\/NF fr cs.size))\/
  (ι b=some none/\l=[]):=by
 rcases hW.blk b _ hl (by simp) with ⟨r,o,h1,h2,cs,e,fr,rfl,h3⟩ | ⟨h1,t',h2⟩
 ·exact .inl ⟨r,cs,e,fr,h1,h2,h3⟩
 ·injection h2 with h3 h4
  subst h3
  exact .inr ⟨h1,eq_of_heq h4⟩
theorem mr {t:List Lf}:∀(l:List (den t)),(l.flatMap (vals t)).length=l.length*t.length
 | []=>by simp
 | x::l=>by simp [mX,fA,mr l,fH,nT]
theorem GX {t:List Lf}:∀(l:List (den t)) (j:Nat) (x:den t),l[j]?=some x->((l.flatMap (vals t)).drop (j*t.length)).take t.length=vals t x
 | [],j,x,h=>by simp at h
 | y::l,0,x,h=>by
  simp only [jL,am] at h;subst h
  simp only [Nat.zero_mul,gk,mX]
  rw [sB (by rw [fA];exact aU _),gL (by rw [fA];exact aU _)]
 | y::l,j+1,x,h=>by
  simp only [CO] at h
  simp only [mX]
  rw [show (j+1)*t.length=(vals t y).length+j*t.length by rw [fA,fH];omega,Dt,rf (by omega)]
  simp only [BP,ew]
  exact GX l j x h
theorem MA {t:List Lf} {l:List (den t)} {cs:Array Value} {o:Nat} (h:(cs.toList.drop o).take (l.length*t.length)=l.flatMap (vals t)) {j:Nat} {x:den t} (hj:l[j]?=some x):
  (cs.toList.drop (o+j*t.length)).take t.length=vals t x/\j*t.length+t.length<=l.length*t.length:=by
 have hlt:j<l.length:=by
  rcases aH j l.length with h' | h'
  ·exact h'
  ·rw [eo h'] at hj;cases hj
 have hle:j*t.length+t.length<=l.length*t.length:=by
  have:=mD t.length (show j+1<=l.length from hlt)
  rw [fH] at this;omega
 refine ⟨?_,hle⟩
 have h2:=GX l j x hj
 rw [<-h,Ah,yy,qD (by omega),xk] at h2
 exact h2
theorem mE {t:TypeId} {d:TypeDesc} (hd:P.underlying t=some d) (hn:bC P t=false) {w:World} {r o:Nat} {cs:Array Value} {e:TypeId} {fr:Nat×Nat}
  (h:w.heap[r]?=some (.cells cs e fr)) {x:Value} (hx:cs[o]?=some x):(Instr.loadAt t (.pointer (some ⟨r,o,none⟩))).run P w=.ok x w:=by
 simp only [Instr.loadAt,Instr.sureAddr,loadVar,av,az,ax,i7 hd,hn,ca,aE,run_load,bn h,hx]
theorem mF {t:TypeId} {d:TypeDesc} (hd:P.underlying t=some d) (hn:bC P t=true) {w:World} {r o:Nat} {cs:Array Value} {e:TypeId} {fr:Nat×Nat}
  (h:w.heap[r]?=some (.cells cs e fr)) (hl:o+P.cellsOf t<=cs.size):
  (Instr.loadAt t (.pointer (some ⟨r,o,none⟩))).run P w=.ok (.agg ((cs.toList.drop o).take (P.cellsOf t)).toArray) w:=by
 obtain ⟨i,hi⟩:=lI hd
 have hlen:((cs.toList.drop o).take (P.cellsOf t)).length=P.cellsOf t:=by simp;omega
 have hc:=uR (P:=P) w ⟨r,o,none⟩ ((cs.toList.drop o).take (P.cellsOf t)) (λj v hj=>by
  have hjl:j<P.cellsOf t:=by
   rcases aH j (P.cellsOf t) with h' | h'
   ·exact h'
   ·rw [eo (by omega)] at hj;cases hj
  rw [oa hjl,jT] at hj
  have:(⟨r,o,none⟩:Addr).add j=⟨r,o+j,none⟩:=by
   unfold Addr.add;split
   ·rename_i h0;subst h0;rfl
   ·rfl
  rw [this,bn h]
  simpa using hj)
 rw [hlen] at hc
 simp only [Instr.loadAt,Instr.sureAddr,loadVar,av,az,ax,i7 hd,hn,aT,eK hi,hc]
theorem wY {α:Type} {ι:Inj} {H:List (Nat×Blk)} {nb b o:Nat} {w:World} (hW:WR ι H nb w) {blk:Blk} (hl:look H b=some blk) {t:TypeId} {d:TypeDesc}
  (hd:P.underlying t=some d) (hn:bC P t=true) {c:V->Option α} {z:α} (h:np P t blk o c=some z):
  ∃v x r,c v=some z/\ι b=some (some r)/\(Instr.loadAt t (.pointer (some ⟨r.r,o,none⟩))).run P w=.ok x w/\VR ι v x:=by
 unfold np at h
 split at h
 ·split at h
  ·rename_i hle
   have hle':=aD hle
   obtain ⟨r,cs,e,fr,h1,h2,h3,h4⟩:=ot hW hl
   have hsz:=h3.length
   have hsz':cs.size=cs.toList.length:=by simp
   exact ⟨_,_,r,h,h1,mF hd hn h2 (by omega),nK (by simpa using (h3.drop o).take _)⟩
  ·cases h
 ·split at h
  ·rename_i hbb
   simp only [ay,gP] at hbb
   obtain ⟨rfl,hn'⟩:=hbb
   obtain ⟨r,e,fr,h1,h2,h3,h4⟩:=ub hW hl
   refine ⟨_,_,r,h,h1,mF hd hn h2 (by simp;omega),?_⟩
   simp only [VR]
   refine ⟨h3,?_⟩
   rw [Value.agg.injEq]
   apply kx
   simp only [gk]
   exact gL (by simp;omega)
  ·cases h
 ·cases h
theorem Px {k:IntKind} {l:List V} {o:Nat} {n:Int} (h:(l.map (tI k))[o]?=some (some n)):l[o]?=some (.i k n):=by
 rw [ml] at h
 cases hv:l[o]? with
 | none=>rw [hv] at h;cases h
 | some v=>
  rw [hv] at h
  simp only [dP,am] at h
  unfold tI at h
  split at h
  ·split at h
   ·rename_i hk
    rw [jn hk]
    simp only [am] at h
    rw [h]
   ·cases h
  ·cases h
theorem EU {α:Type} {ι:Inj} {H:List (Nat×Blk)} {nb b o:Nat} {w:World} (hW:WR ι H nb w) {blk:Blk} (hl:look H b=some blk) {t:TypeId}
  {c:V->Option α} {z:α} (h:wj P t blk o c=some z):
  ∃v x r,c v=some z/\ι b=some (some r)/\(Instr.loadAt t (.pointer (some ⟨r.r,o,none⟩))).run P w=.ok x w/\VR ι v x:=by
 have one:∀{d:TypeDesc} {l:List V} {v:V},P.underlying t=some d->bC P t=false->look H b=some (.cells l)->l[o]?=some v->c v=some z->
   ∃v x r,c v=some z/\ι b=some (some r)/\(Instr.loadAt t (.pointer (some ⟨r.r,o,none⟩))).run P w=.ok x w/\VR ι v x:=by
  intro d l v hd hn hl hv hc
  obtain ⟨r,cs,e,fr,h1,h2,h3,h4⟩:=ot hW hl
  obtain ⟨x,hx,hvx⟩:=h3.get hv
  exact ⟨v,x,r,hc,h1,mE hd hn h2 (by simpa using hx),hvx⟩
 unfold wj at h
 split at h
 ·rename_i fs hd
  exact wY hW hl hd (by simp [bC,hd]) h
 ·rename_i n e hd
  exact wY hW hl hd (by simp [bC,hd]) h
 ·rename_i k hd
  have hn:bC P t=false:=by simp [bC,hd]
  split at h
  ·split at h
   ·rename_i xs hxs
    obtain ⟨n,h1,h2⟩:=au h
    exact one hd hn hl (by rw [rA hxs];simp [h1]) h2
   ·obtain ⟨q,h1,h2⟩:=au h
    obtain ⟨n,rfl,h2⟩:=au h2
    exact one hd hn hl (Px h1) h2
  ·rename_i k' n l
   obtain ⟨m,h1,h2⟩:=au h
   obtain ⟨r,e,fr,g1,g2,g3,g4⟩:=ub hW hl
   exact ⟨_,.int k' m,r,h2,g1,mE hd hn g2 (by simp [h1]),by simp [VR]⟩
  ·cases h
 ·rename_i hd
  have hn:bC P t=false:=by simp [bC,hd]
  split at h
  ·split at h
   ·rename_i xs hxs
    obtain ⟨n,h1,h2⟩:=au h
    exact one hd hn hl (by rw [qW hxs];simp [h1]) h2
   ·obtain ⟨v,h1,h2⟩:=au h
    exact one hd hn hl h1 h2
  ·cases h
 ·rename_i d h1 h2 h3 h4 hd
  have hn:bC P t=false:=by
   simp only [bC,hd]
   cases d<;>simp_all
  split at h
  ·obtain ⟨v,h1,h2⟩:=au h
   exact one hd hn hl h1 h2
  ·cases h
 ·cases h
theorem Ls {α:Type} {ι:Inj} {w:World} {r o base:Nat} {cs:Array Value} {e:TypeId} {fr:Nat×Nat} {l:List V} (hh:w.heap[r]?=some (.cells cs e fr))
  (hl:VRs ι l ((cs.toList.drop base).take l.length)) (hlen:base+l.length<=cs.size) {t:TypeId} {c:V->Option α} {z:α} (h:wj P t (.cells l) o c=some z):
  ∃v x,c v=some z/\(Instr.loadAt t (.pointer (some ⟨r,base+o,none⟩))).run P w=.ok x w/\VR ι v x:=by
 have one:∀{d:TypeDesc} {v:V},P.underlying t=some d->bC P t=false->l[o]?=some v->c v=some z->
   ∃v x,c v=some z/\(Instr.loadAt t (.pointer (some ⟨r,base+o,none⟩))).run P w=.ok x w/\VR ι v x:=by
  intro d v hd hn hv hc
  obtain ⟨x,hx,hvx⟩:=hl.get hv
  have hlt:o<l.length:=by
   rcases aH o l.length with h' | h'
   ·exact h'
   ·rw [eo h'] at hv;cases hv
  rw [oa hlt,jT] at hx
  exact ⟨v,x,hc,mE hd hn hh (by simpa using hx),hvx⟩
 have agg:∀{d:TypeDesc},P.underlying t=some d->bC P t=true->np P t (.cells l) o c=some z->
   ∃v x,c v=some z/\(Instr.loadAt t (.pointer (some ⟨r,base+o,none⟩))).run P w=.ok x w/\VR ι v x:=by
  intro d hd hn h
  simp only [np] at h
  split at h
  ·rename_i hle
   have hle':=aD hle
   refine ⟨_,_,h,mF hd hn hh (by omega),nK ?_⟩
   have:=(hl.drop o).take (P.cellsOf t)
   rw [Ah,xk,yy,qD (by omega)] at this
   simpa using this
  ·cases h
 unfold wj at h
 split at h
 ·rename_i fs hd
  exact agg hd (by simp [bC,hd]) h
 ·rename_i n e hd
  exact agg hd (by simp [bC,hd]) h
 ·rename_i k hd
  have hn:bC P t=false:=by simp [bC,hd]
  simp only at h
  split at h
  ·rename_i xs hxs
   obtain ⟨n,h1,h2⟩:=au h
   exact one hd hn (by rw [rA hxs];simp [h1]) h2
  ·obtain ⟨q,h1,h2⟩:=au h
   obtain ⟨n,rfl,h2⟩:=au h2
   exact one hd hn (Px h1) h2
 ·rename_i hd
  have hn:bC P t=false:=by simp [bC,hd]
  simp only at h
  split at h
  ·rename_i xs hxs
   obtain ⟨n,h1,h2⟩:=au h
   exact one hd hn (by rw [qW hxs];simp [h1]) h2
  ·obtain ⟨v,h1,h2⟩:=au h
   exact one hd hn h1 h2
 ·rename_i d h1 h2 h3 h4 hd
  have hn:bC P t=false:=by
   simp only [bC,hd]
   cases d<;>simp_all
  simp only at h
  obtain ⟨v,h1,h2⟩:=au h
  exact one hd hn h1 h2
 ·cases h
theorem Lf.inV_ok:∀{a:Lf} {v:V} {x:a.den},a.inV v=some x->v=a.toV x
 | .i k,v,x,h=>by
  cases v<;>simp only [Lf.inV] at h<;>try cases h
  split at h
  ·rename_i hk
   simp only [am] at h;subst h
   rw [jn hk];rfl
  ·cases h
 | .bo,v,x,h=>by cases v<;>simp only [Lf.inV] at h<;>cases h;rfl
 | .s,v,x,h=>by cases v<;>simp only [Lf.inV] at h<;>cases h;rfl
theorem tA:∀{t:List Lf} {l:List V} {x:den t},ve t l=some x->l=cells t x
 | [],[],_,_=>rfl
 | [],_::_,_,h=>by simp [ve] at h
 | [a],[],_,h=>by simp [ve] at h
 | [a],[v],x,h=>by
  simp only [ve] at h
  rw [Lf.inV_ok h];rfl
 | [a],_::_::_,_,h=>by simp [ve] at h
 | a::b::t,[],_,h=>by simp [ve] at h
 | a::b::t,v::vs,x,h=>by
  simp only [ve] at h
  split at h
  ·rename_i y hy
   split at h
   ·rename_i y' hy'
    simp only [am] at h;subst h
    rw [Lf.inV_ok hy,tA hy'];rfl
   ·cases h
  ·cases h
theorem Az {t:List Lf}:∀{n:Nat} {l:List V} {m:List (den t)},zL t t.length n l=some m->l.length=n*t.length->m.length=n/\l=m.flatMap (cells t)
 | 0,l,m,h,hl=>by
  simp only [zL,am] at h;subst h
  exact ⟨rfl,by simpa using hl⟩
 | n+1,l,m,h,hl=>by
  simp only [zL] at h
  split at h
  ·rename_i x hx
   split at h
   ·rename_i m' hm
    simp only [am] at h;subst h
    rw [fH] at hl
    obtain ⟨h1,h2⟩:=Az hm (by rw [mT];omega)
    refine ⟨by simp [h1],?_⟩
    rw [mX,<-tA hx,<-h2,uG]
   ·cases h
  ·cases h
theorem EK (ι:Inj) {t:List Lf}:∀(m:List (den t)) (ys:List Value),VRs ι (m.flatMap (cells t)) ys->ys=m.flatMap (vals t)
 | [],ys,h=>by simpa [VRs] using h
 | x::m,ys,h=>by
  rw [mX] at h ⊢
  have h1:=h.take t.length
  have h2:=h.drop t.length
  rw [sB (by rw [ji];exact aU _),gL (by rw [ji];exact aU _)] at h1
  rw [Dt,rf (by rw [ji];exact aU _),ji] at h2
  simp only [xY,gk,ew] at h2
  rw [<-(md ι t x _).1 h1,<-EK ι m _ h2,uG]
end Go.Abs
