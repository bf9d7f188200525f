/- What the abstract effect of an operation says of the model's own operation: the parts of it.
   Conditions: none; generic over the program. -/
import Derived.Test.YtplhepcdmkbioaaGreatDoorAbsB
import Derived.Laws.Entries
import Derived.Laws.Cells
namespace Go.Abs
variable {P:Program}
theorem iy {t:TypeId} {d:TypeDesc} (h:P.underlying t=some d):∃i,P.info? t=some i:=by
 unfold Program.underlying at h
 cases hi:P.info? t with
 | none=>simp [hi] at h
 | some i=>exact ⟨i,rfl⟩
theorem aU {t:TypeId} (h:Nat.blt 0 (P.cellsOf t)=true):∃i,P.info? t=some i:=by
 unfold Program.cellsOf at h
 cases hi:P.info? t with
 | none=>simp [hi] at h
 | some i=>exact ⟨i,rfl⟩
theorem dr {t:TypeId} {i:TypeInfo} (h:P.info? t=some i) (w:World):(sizeOf t).run P w=.ok (P.cellsOf t) w:=by
 simp [sizeOf,typeInfo,h,Program.cellsOf]
theorem fR {t:TypeId} {d:TypeDesc} (h:P.underlying t=some d) (w:World):(isAgg t).run P w=.ok (aP P t) w:=by
 unfold isAgg aP
 rw [h]
 simp only [Sem.run_bind,run_underlying h,Result.andThen_ok]
 cases d<;>rfl
theorem s7 (ι:Inj) {x:Value} {v:V} (h:uO x=some v):VR ι v x/\x.cells=#[x]/\oneV v=true:=by
 unfold uO at h
 split at h<;>simp_all [Value.cells]
 all_goals (subst h;simp [VR,oneV,Value.cells,Value.oneCell'])
theorem qE (ι:Inj):∀{xs:List Value} {l:List V},oM xs=some l->VRs ι l xs
 | [],_,h=>by simp only [oM,Option.some.injEq] at h;subst h;simp [VRs]
 | x::xs,l,h=>by
  simp only [oM] at h
  split at h
  ·rename_i v hv
   split at h
   ·rename_i m hm
    simp only [Option.some.injEq] at h;subst h
    simp only [VRs]
    exact ⟨x,xs,rfl,(s7 ι hv).1,qE ι hm⟩
   ·cases h
  ·cases h
theorem va (ι:Inj) {x:Value} {v:V} (h:Ar x=some v):VR ι v x:=by
 unfold Ar at h
 split at h
 ·split at h
  ·rename_i hl
   simp only [Option.some.injEq] at h;subst h
   simp only [VR]
   exact ⟨_,rfl,qE ι hl⟩
  ·cases h
 ·exact (s7 ι h).1
theorem mq {k:IntKind}:∀{l:List V} {xs:List Int},qx k l=some xs->l=xs.map (V.i k)
 | [],_,h=>by simp only [qx,Option.some.injEq] at h;subst h;rfl
 | v::l,xs,h=>by
  unfold qx at h
  split at h<;>rename_i heq
  ·cases heq
  ·injection heq with h1 h2;subst h1 h2
   split at h
   ·rename_i hk
    split at h
    ·rename_i m hm
     simp only [Option.some.injEq] at h;subst h
     rw [mq hm,gi hk];rfl
    ·cases h
   ·cases h
  ·cases h
theorem mB:∀{l:List V} {xs:List (List UInt8)},qr l=some xs->l=xs.map V.s
 | [],_,h=>by simp only [qr,Option.some.injEq] at h;subst h;rfl
 | v::l,xs,h=>by
  unfold qr at h
  split at h<;>rename_i heq
  ·cases heq
  ·injection heq with h1 h2;subst h1 h2
   split at h
   ·rename_i m hm
    simp only [Option.some.injEq] at h;subst h
    rw [mB hm];rfl
   ·cases h
  ·cases h
theorem VRs.of_ints {ι:Inj} {k:IntKind}:∀{xs:List Int} {vs:List Value},VRs ι (xs.map (V.i k)) vs->vs=xs.map (Value.int k)
 | [],_,h=>by simpa [VRs] using h
 | x::xs,vs,h=>by
  simp only [List.map_cons,VRs,VR] at h
  obtain ⟨y,ys,rfl,rfl,h3⟩:=h
  simp [VRs.of_ints h3]
theorem jN {ι:Inj} {t:TypeId} {l:List V} {cs:Array Value} (h:VRs ι l cs.toList):VR ι (th P t l) (.agg cs):=by
 unfold th
 split
 ·split
  ·rename_i hx
   rw [mq hx] at h
   simp only [VR,true_and]
   have:=VRs.of_ints h
   rw [Value.agg.injEq]
   apply Array.ext'
   simpa using this
  ·simp only [VR];exact ⟨cs,rfl,h⟩
 ·simp only [VR];exact ⟨cs,rfl,h⟩
theorem C7 {ι:Inj} {t:TypeId} {v:V} {x:Value} (h:VR ι v x):VR ι (norm P t v) x:=by
 cases v<;>simp only [norm]<;>try exact h
 simp only [VR] at h
 obtain ⟨cs,rfl,h⟩:=h
 exact jN h
theorem lO (n:Nat):NF (0,0) n:=by
 intro j _ h
 simp at h
theorem vA {ι:Inj} {q:Rf} {v:V} {x:Value} (h:VR ι v x) (t:TypeId):BR ι q (AQ v) (.cells x.cells t):=by
 have one:∀{v:V} {x:Value},VR ι v x->x.cells=#[x]->BR ι q (.cells [v]) (.cells x.cells t):=by
  intro v x h hx
  rw [hx]
  exact ⟨_,_,_,rfl,by simp only [VRs];exact ⟨x,[],rfl,h,rfl⟩,lO _⟩
 cases v with
 | ag l=>
  simp only [VR] at h
  obtain ⟨cs,rfl,h⟩:=h
  exact ⟨cs,t,(0,0),rfl,h,lO _⟩
 | ai k n l=>
  simp only [VR] at h
  obtain ⟨h1,rfl⟩:=h
  exact ⟨t,(0,0),rfl,h1,lO _⟩
 | _=>
  simp only [AQ]
  refine one h ?_
  simp only [VR] at h
  first
   | (rcases h with ⟨_,_,rfl⟩ | ⟨_,_,rfl⟩<;>rfl)
   | (rcases h with ⟨_,_,_,_,_,_,rfl⟩ | ⟨_,_,_,rfl⟩<;>rfl)
   | (subst h;rfl)
   | (obtain ⟨cs,h,_⟩:=h;obtain ⟨_,_,_,e⟩:=qj _ cs;rw [h,e];rfl)
   | (obtain ⟨_,rfl,_⟩:=h;rfl)
   | (obtain ⟨_,_,rfl⟩:=h;rfl)
   | (obtain ⟨_,_,_,_,_,rfl⟩:=h;rfl)
   | exact h.1
theorem om (k:IntKind) (l:List Int):∀(n j:Nat),mn k l n j=(List.range n).map λi=>V.i k (l.getD (j+i) 0)
 | 0,_=>rfl
 | n+1,j=>by
  simp only [mn,om k l n (j+1),List.range_succ_eq_map,List.map_cons,List.map_map,Nat.add_zero]
  congr 1
  apply List.map_congr_left
  intro i _
  simp [Nat.add_assoc,Nat.add_comm 1 i]
theorem tq (k:IntKind) {l:List Int} {n:Nat} (h:l.length=n):mn k l n 0=l.map (V.i k):=by
 rw [om]
 apply List.ext_getElem?
 intro i
 by_cases hi:i<n
 ·simp [hi,h▸hi,List.getD]
 ·simp [hi,List.getElem?_eq_none (Nat.le_of_not_lt (h▸hi))]
theorem iH {ι:Inj} {v:V} {x:Value} (h:VR ι v x):VRs ι (cellsOf v) x.cells.toList:=by
 have one:∀{v:V} {x:Value},VR ι v x->x.cells=#[x]->VRs ι [v] x.cells.toList:=by
  intro v x h hx
  rw [hx]
  simp only [VRs];exact ⟨x,[],rfl,h,rfl⟩
 cases v with
 | ag l=>
  simp only [VR] at h
  obtain ⟨cs,rfl,h⟩:=h
  exact h
 | ai k n l=>
  simp only [VR] at h
  obtain ⟨h1,rfl⟩:=h
  simp only [cellsOf,tq k h1,Value.cells]
  exact VRs.ints k l
 | _=>
  simp only [cellsOf]
  refine one h ?_
  simp only [VR] at h
  first
   | (rcases h with ⟨_,_,rfl⟩ | ⟨_,_,rfl⟩<;>rfl)
   | (rcases h with ⟨_,_,_,_,_,_,rfl⟩ | ⟨_,_,_,rfl⟩<;>rfl)
   | (subst h;rfl)
   | (obtain ⟨cs,h,_⟩:=h;obtain ⟨_,_,_,e⟩:=qj _ cs;rw [h,e];rfl)
   | (obtain ⟨_,rfl,_⟩:=h;rfl)
   | (obtain ⟨_,_,rfl⟩:=h;rfl)
   | (obtain ⟨_,_,_,_,_,rfl⟩:=h;rfl)
   | exact h.1
theorem aD {ι:Inj} {T:List (Nat×Option V)} {a:Act} (ht:TR ι T a.tmps) {x:Operand} {v:V} (h:opd T x=some v):VR ι v (a.eval x):=by
 cases x with
 | tmp t=>
  simp only [opd] at h
  split at h
  ·rename_i u hu
   simp only [Option.some.injEq] at h;subst h
   obtain ⟨y,h1,h2⟩:=ht t u hu
   simpa [Act.eval,Array.getD_eq_getD_getElem?,h1] using h2
  ·cases h
 | const c=>exact va ι h
 | func f=>
  simp only [opd] at h
  split at h
  ·rename_i hb
   simp only [Option.some.injEq] at h;subst h
   simp only [VR,Act.eval]
   exact ⟨#[],(uL hb _).symm,by simp [VRs]⟩
  ·cases h
 | global g=>simp [opd] at h
theorem pB {ι:Inj} {T:List (Nat×Option V)} {a:Act} (ht:TR ι T a.tmps):∀{xs:List Operand} {l:List V},opds (opd T) xs=some l->VRs ι l (xs.map a.eval)
 | [],_,h=>by simp only [opds,Option.some.injEq] at h;subst h;simp [VRs]
 | x::xs,l,h=>by
  simp only [opds] at h
  split at h
  ·rename_i v hv
   split at h
   ·rename_i m hm
    simp only [Option.some.injEq] at h;subst h
    simp only [List.map_cons,VRs]
    exact ⟨_,_,rfl,aD ht hv,pB ht hm⟩
   ·cases h
  ·cases h
theorem sJ {ι:Inj} {v:V} {x:Value} (h:VR ι v x) (ho:oneV v=true):x.oneCell'=true:=by
 cases v<;>simp only [oneV,Bool.false_eq_true] at ho<;>simp only [VR] at h<;>first
  | (rcases h with ⟨_,_,rfl⟩ | ⟨_,_,rfl⟩<;>rfl)
  | (rcases h with ⟨_,_,_,_,_,_,rfl⟩ | ⟨_,_,_,rfl⟩<;>rfl)
  | (subst h;rfl)
  | (obtain ⟨cs,h,_⟩:=h;obtain ⟨_,_,_,e⟩:=qj _ cs;rw [h,e];rfl)
  | (obtain ⟨_,rfl,_⟩:=h;rfl)
  | (obtain ⟨_,_,rfl⟩:=h;rfl)
  | (obtain ⟨_,_,_,_,_,rfl⟩:=h;rfl)
  | exact h.2
theorem kO {ι:Inj} {H:List (Nat×Blk)} {nb b:Nat} {w:World} (hW:WR ι H nb w) {l:List V} (hl:look H b=some (.cells l)):
  ∃r cs e fr,ι b=some (some r)/\w.heap[r.r]?=some (.cells cs e fr)/\VRs ι l cs.toList/\NF fr cs.size:=by
 obtain ⟨r,o,h1,h2,cs,e,fr,rfl,h3,h4⟩:=(hW.blk b _ hl (by simp)).real (by simp)
 exact ⟨r,cs,e,fr,h1,h2,h3,h4⟩
theorem nR {ι:Inj} {H:List (Nat×Blk)} {nb b:Nat} {w:World} (hW:WR ι H nb w) {k:IntKind} {n:Nat} {l:List Int} (hl:look H b=some (.ints k n l)):
  ∃r e fr,ι b=some (some r)/\w.heap[r.r]?=some (.cells (l.map (Value.int k)).toArray e fr)/\l.length=n/\NF fr n:=by
 obtain ⟨r,o,h1,h2,e,fr,rfl,h3,h4⟩:=(hW.blk b _ hl (by simp)).real (by simp)
 exact ⟨r,e,fr,h1,h2,h3,h4⟩
theorem eU {ι:Inj} {H:List (Nat×Blk)} {nb b:Nat} {w:World} (hW:WR ι H nb w) {t:List Lf} {l:List (den t)} (hl:look H b=some (.rows t l)):
  (∃r cs e fr,ι b=some (some r)/\w.heap[r.r]?=some (.cells cs e fr)/\l.length=r.n/\r.n<=r.k/\r.o+r.k*t.length<=cs.size/\(cs.toList.drop r.o).take (l.length*t.length)=l.flatMap (vals t)/\(r.fz=true\/NF fr cs.size))\/
  (ι b=some none/\l=[]):=by
 rcases hW.blk b _ hl (by simp) with ⟨r,o,h1,h2,cs,e,fr,rfl,h3⟩ | ⟨h1,t',h2⟩
 ·exact .inl ⟨r,cs,e,fr,h1,h2,h3⟩
 ·injection h2 with h3 h4
  subst h3
  exact .inr ⟨h1,eq_of_heq h4⟩
theorem jf {t:List Lf}:∀(l:List (den t)),(l.flatMap (vals t)).length=l.length*t.length
 | []=>by simp
 | x::l=>by simp [List.flatMap_cons,fG,jf l,Nat.add_mul,Nat.add_comm]
theorem zp {t:List Lf}:∀(l:List (den t)) (j:Nat) (x:den t),l[j]?=some x->((l.flatMap (vals t)).drop (j*t.length)).take t.length=vals t x
 | [],j,x,h=>by simp at h
 | y::l,0,x,h=>by
  simp only [List.getElem?_cons_zero,Option.some.injEq] at h;subst h
  simp only [Nat.zero_mul,List.drop_zero,List.flatMap_cons]
  rw [List.take_append_of_le_length (by rw [fG];exact Nat.le_refl _),List.take_of_length_le (by rw [fG];exact Nat.le_refl _)]
 | y::l,j+1,x,h=>by
  simp only [List.getElem?_cons_succ] at h
  simp only [List.flatMap_cons]
  rw [show (j+1)*t.length=(vals t y).length+j*t.length by rw [fG,Nat.add_mul];omega,List.drop_append,List.drop_eq_nil_of_le (by omega)]
  simp only [Nat.add_sub_cancel_left,List.nil_append]
  exact zp l j x h
theorem CM {t:List Lf} {l:List (den t)} {cs:Array Value} {o:Nat} (h:(cs.toList.drop o).take (l.length*t.length)=l.flatMap (vals t)) {j:Nat} {x:den t} (hj:l[j]?=some x):
  (cs.toList.drop (o+j*t.length)).take t.length=vals t x/\j*t.length+t.length<=l.length*t.length:=by
 have hlt:j<l.length:=by
  rcases Nat.lt_or_ge j l.length with h' | h'
  ·exact h'
  ·rw [List.getElem?_eq_none h'] at hj;cases hj
 have hle:j*t.length+t.length<=l.length*t.length:=by
  have:=Nat.mul_le_mul_right t.length (show j+1<=l.length from hlt)
  rw [Nat.add_mul] at this;omega
 refine ⟨?_,hle⟩
 have h2:=zp l j x hj
 rw [<-h,List.drop_take,List.take_take,Nat.min_eq_left (by omega),List.drop_drop] at h2
 exact h2
theorem jm {t:TypeId} {d:TypeDesc} (hd:P.underlying t=some d) (hn:aP P t=false) {w:World} {r o:Nat} {cs:Array Value} {e:TypeId} {fr:Nat×Nat}
  (h:w.heap[r]?=some (.cells cs e fr)) {x:Value} (hx:cs[o]?=some x):(Instr.loadAt t (.pointer (some ⟨r,o,none⟩))).run P w=.ok x w:=by
 simp only [Instr.loadAt,Instr.sureAddr,loadVar,Sem.run_bind,Sem.run_pure,Result.andThen_ok,fR hd,hn,Bool.false_eq_true,if_false,run_load,aJ h,hx]
theorem jn {t:TypeId} {d:TypeDesc} (hd:P.underlying t=some d) (hn:aP P t=true) {w:World} {r o:Nat} {cs:Array Value} {e:TypeId} {fr:Nat×Nat}
  (h:w.heap[r]?=some (.cells cs e fr)) (hl:o+P.cellsOf t<=cs.size):
  (Instr.loadAt t (.pointer (some ⟨r,o,none⟩))).run P w=.ok (.agg ((cs.toList.drop o).take (P.cellsOf t)).toArray) w:=by
 obtain ⟨i,hi⟩:=iy hd
 have hlen:((cs.toList.drop o).take (P.cellsOf t)).length=P.cellsOf t:=by simp;omega
 have hc:=run_loadCells_list (P:=P) w ⟨r,o,none⟩ ((cs.toList.drop o).take (P.cellsOf t)) (λj v hj=>by
  have hjl:j<P.cellsOf t:=by
   rcases Nat.lt_or_ge j (P.cellsOf t) with h' | h'
   ·exact h'
   ·rw [List.getElem?_eq_none (by omega)] at hj;cases hj
  rw [List.getElem?_take_of_lt hjl,List.getElem?_drop] at hj
  have:(⟨r,o,none⟩:Addr).add j=⟨r,o+j,none⟩:=by
   unfold Addr.add;split
   ·rename_i h0;subst h0;rfl
   ·rfl
  rw [this,aJ h]
  simpa using hj)
 rw [hlen] at hc
 simp only [Instr.loadAt,Instr.sureAddr,loadVar,Sem.run_bind,Sem.run_pure,Result.andThen_ok,fR hd,hn,if_true,dr hi,hc]
theorem qC {α:Type} {ι:Inj} {H:List (Nat×Blk)} {nb b o:Nat} {w:World} (hW:WR ι H nb w) {blk:Blk} (hl:look H b=some blk) {t:TypeId} {d:TypeDesc}
  (hd:P.underlying t=some d) (hn:aP P t=true) {c:V->Option α} {z:α} (h:kv P t blk o c=some z):
  ∃v x r,c v=some z/\ι b=some (some r)/\(Instr.loadAt t (.pointer (some ⟨r.r,o,none⟩))).run P w=.ok x w/\VR ι v x:=by
 unfold kv at h
 split at h
 ·split at h
  ·rename_i hle
   have hle':=Nat.le_of_ble_eq_true hle
   obtain ⟨r,cs,e,fr,h1,h2,h3,h4⟩:=kO hW hl
   have hsz:=h3.length
   have hsz':cs.size=cs.toList.length:=by simp
   exact ⟨_,_,r,h,h1,jn hd hn h2 (by omega),jN (by simpa using (h3.drop o).take _)⟩
  ·cases h
 ·split at h
  ·rename_i hbb
   simp only [Bool.and_eq_true,Nat.beq_eq] at hbb
   obtain ⟨rfl,hn'⟩:=hbb
   obtain ⟨r,e,fr,h1,h2,h3,h4⟩:=nR hW hl
   refine ⟨_,_,r,h,h1,jn hd hn h2 (by simp;omega),?_⟩
   simp only [VR]
   refine ⟨h3,?_⟩
   rw [Value.agg.injEq]
   apply Array.ext'
   simp only [List.drop_zero]
   exact List.take_of_length_le (by simp;omega)
  ·cases h
 ·cases h
theorem EV {k:IntKind} {l:List V} {o:Nat} {n:Int} (h:(l.map (tI k))[o]?=some (some n)):l[o]?=some (.i k n):=by
 rw [List.getElem?_map] at h
 cases hv:l[o]? with
 | none=>rw [hv] at h;cases h
 | some v=>
  rw [hv] at h
  simp only [Option.map_some,Option.some.injEq] at h
  unfold tI at h
  split at h
  ·split at h
   ·rename_i hk
    rw [gi hk]
    simp only [Option.some.injEq] at h
    rw [h]
   ·cases h
  ·cases h
theorem vW {α:Type} {ι:Inj} {H:List (Nat×Blk)} {nb b o:Nat} {w:World} (hW:WR ι H nb w) {blk:Blk} (hl:look H b=some blk) {t:TypeId}
  {c:V->Option α} {z:α} (h:pU P t blk o c=some z):
  ∃v x r,c v=some z/\ι b=some (some r)/\(Instr.loadAt t (.pointer (some ⟨r.r,o,none⟩))).run P w=.ok x w/\VR ι v x:=by
 have one:∀{d:TypeDesc} {l:List V} {v:V},P.underlying t=some d->aP P t=false->look H b=some (.cells l)->l[o]?=some v->c v=some z->
   ∃v x r,c v=some z/\ι b=some (some r)/\(Instr.loadAt t (.pointer (some ⟨r.r,o,none⟩))).run P w=.ok x w/\VR ι v x:=by
  intro d l v hd hn hl hv hc
  obtain ⟨r,cs,e,fr,h1,h2,h3,h4⟩:=kO hW hl
  obtain ⟨x,hx,hvx⟩:=h3.get hv
  exact ⟨v,x,r,hc,h1,jm hd hn h2 (by simpa using hx),hvx⟩
 unfold pU at h
 split at h
 ·rename_i fs hd
  exact qC hW hl hd (by simp [aP,hd]) h
 ·rename_i n e hd
  exact qC hW hl hd (by simp [aP,hd]) h
 ·rename_i k hd
  have hn:aP P t=false:=by simp [aP,hd]
  split at h
  ·split at h
   ·rename_i xs hxs
    obtain ⟨n,h1,h2⟩:=af h
    exact one hd hn hl (by rw [mq hxs];simp [h1]) h2
   ·obtain ⟨q,h1,h2⟩:=af h
    obtain ⟨n,rfl,h2⟩:=af h2
    exact one hd hn hl (EV h1) h2
  ·rename_i k' n l
   obtain ⟨m,h1,h2⟩:=af h
   obtain ⟨r,e,fr,g1,g2,g3,g4⟩:=nR hW hl
   exact ⟨_,.int k' m,r,h2,g1,jm hd hn g2 (by simp [h1]),by simp [VR]⟩
  ·cases h
 ·rename_i hd
  have hn:aP P t=false:=by simp [aP,hd]
  split at h
  ·split at h
   ·rename_i xs hxs
    obtain ⟨n,h1,h2⟩:=af h
    exact one hd hn hl (by rw [mB hxs];simp [h1]) h2
   ·obtain ⟨v,h1,h2⟩:=af h
    exact one hd hn hl h1 h2
  ·cases h
 ·rename_i d h1 h2 h3 h4 hd
  have hn:aP P t=false:=by
   simp only [aP,hd]
   cases d<;>simp_all
  split at h
  ·obtain ⟨v,h1,h2⟩:=af h
   exact one hd hn hl h1 h2
  ·cases h
 ·cases h
theorem BH {α:Type} {ι:Inj} {w:World} {r o base:Nat} {cs:Array Value} {e:TypeId} {fr:Nat×Nat} {l:List V} (hh:w.heap[r]?=some (.cells cs e fr))
  (hl:VRs ι l ((cs.toList.drop base).take l.length)) (hlen:base+l.length<=cs.size) {t:TypeId} {c:V->Option α} {z:α} (h:pU P t (.cells l) o c=some z):
  ∃v x,c v=some z/\(Instr.loadAt t (.pointer (some ⟨r,base+o,none⟩))).run P w=.ok x w/\VR ι v x:=by
 have one:∀{d:TypeDesc} {v:V},P.underlying t=some d->aP P t=false->l[o]?=some v->c v=some z->
   ∃v x,c v=some z/\(Instr.loadAt t (.pointer (some ⟨r,base+o,none⟩))).run P w=.ok x w/\VR ι v x:=by
  intro d v hd hn hv hc
  obtain ⟨x,hx,hvx⟩:=hl.get hv
  have hlt:o<l.length:=by
   rcases Nat.lt_or_ge o l.length with h' | h'
   ·exact h'
   ·rw [List.getElem?_eq_none h'] at hv;cases hv
  rw [List.getElem?_take_of_lt hlt,List.getElem?_drop] at hx
  exact ⟨v,x,hc,jm hd hn hh (by simpa using hx),hvx⟩
 have agg:∀{d:TypeDesc},P.underlying t=some d->aP P t=true->kv P t (.cells l) o c=some z->
   ∃v x,c v=some z/\(Instr.loadAt t (.pointer (some ⟨r,base+o,none⟩))).run P w=.ok x w/\VR ι v x:=by
  intro d hd hn h
  simp only [kv] at h
  split at h
  ·rename_i hle
   have hle':=Nat.le_of_ble_eq_true hle
   refine ⟨_,_,h,jn hd hn hh (by omega),jN ?_⟩
   have:=(hl.drop o).take (P.cellsOf t)
   rw [List.drop_take,List.drop_drop,List.take_take,Nat.min_eq_left (by omega)] at this
   simpa using this
  ·cases h
 unfold pU at h
 split at h
 ·rename_i fs hd
  exact agg hd (by simp [aP,hd]) h
 ·rename_i n e hd
  exact agg hd (by simp [aP,hd]) h
 ·rename_i k hd
  have hn:aP P t=false:=by simp [aP,hd]
  simp only at h
  split at h
  ·rename_i xs hxs
   obtain ⟨n,h1,h2⟩:=af h
   exact one hd hn (by rw [mq hxs];simp [h1]) h2
  ·obtain ⟨q,h1,h2⟩:=af h
   obtain ⟨n,rfl,h2⟩:=af h2
   exact one hd hn (EV h1) h2
 ·rename_i hd
  have hn:aP P t=false:=by simp [aP,hd]
  simp only at h
  split at h
  ·rename_i xs hxs
   obtain ⟨n,h1,h2⟩:=af h
   exact one hd hn (by rw [mB hxs];simp [h1]) h2
  ·obtain ⟨v,h1,h2⟩:=af h
   exact one hd hn h1 h2
 ·rename_i d h1 h2 h3 h4 hd
  have hn:aP P t=false:=by
   simp only [aP,hd]
   cases d<;>simp_all
  simp only at h
  obtain ⟨v,h1,h2⟩:=af h
  exact one hd hn h1 h2
 ·cases h
theorem Lf.inV_ok:∀{a:Lf} {v:V} {x:a.den},a.inV v=some x->v=a.toV x
 | .i k,v,x,h=>by
  cases v<;>simp only [Lf.inV] at h<;>try cases h
  split at h
  ·rename_i hk
   simp only [Option.some.injEq] at h;subst h
   rw [gi hk];rfl
  ·cases h
 | .bo,v,x,h=>by cases v<;>simp only [Lf.inV] at h<;>cases h;rfl
 | .s,v,x,h=>by cases v<;>simp only [Lf.inV] at h<;>cases h;rfl
theorem nT:∀{t:List Lf} {l:List V} {x:den t},pi t l=some x->l=cells t x
 | [],[],_,_=>rfl
 | [],_::_,_,h=>by simp [pi] at h
 | [a],[],_,h=>by simp [pi] at h
 | [a],[v],x,h=>by
  simp only [pi] at h
  rw [Lf.inV_ok h];rfl
 | [a],_::_::_,_,h=>by simp [pi] at h
 | a::b::t,[],_,h=>by simp [pi] at h
 | a::b::t,v::vs,x,h=>by
  simp only [pi] at h
  split at h
  ·rename_i y hy
   split at h
   ·rename_i y' hy'
    simp only [Option.some.injEq] at h;subst h
    rw [Lf.inV_ok hy,nT hy'];rfl
   ·cases h
  ·cases h
theorem sw {t:List Lf}:∀{n:Nat} {l:List V} {m:List (den t)},sj t t.length n l=some m->l.length=n*t.length->m.length=n/\l=m.flatMap (cells t)
 | 0,l,m,h,hl=>by
  simp only [sj,Option.some.injEq] at h;subst h
  exact ⟨rfl,by simpa using hl⟩
 | n+1,l,m,h,hl=>by
  simp only [sj] at h
  split at h
  ·rename_i x hx
   split at h
   ·rename_i m' hm
    simp only [Option.some.injEq] at h;subst h
    rw [Nat.add_mul] at hl
    obtain ⟨h1,h2⟩:=sw hm (by rw [List.length_drop];omega)
    refine ⟨by simp [h1],?_⟩
    rw [List.flatMap_cons,<-nT hx,<-h2,List.take_append_drop]
   ·cases h
  ·cases h
theorem u7 (ι:Inj) {t:List Lf}:∀(m:List (den t)) (ys:List Value),VRs ι (m.flatMap (cells t)) ys->ys=m.flatMap (vals t)
 | [],ys,h=>by simpa [VRs] using h
 | x::m,ys,h=>by
  rw [List.flatMap_cons] at h ⊢
  have h1:=h.take t.length
  have h2:=h.drop t.length
  rw [List.take_append_of_le_length (by rw [f6];exact Nat.le_refl _),List.take_of_length_le (by rw [f6];exact Nat.le_refl _)] at h1
  rw [List.drop_append,List.drop_eq_nil_of_le (by rw [f6];exact Nat.le_refl _),f6] at h2
  simp only [Nat.sub_self,List.drop_zero,List.nil_append] at h2
  rw [<-(ic ι t x _).1 h1,<-u7 ι m _ h2,List.take_append_drop]
end Go.Abs
