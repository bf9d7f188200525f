/- append, and calls that move rows.
   Conditions: none; generic over the program. -/
import Derived.Test.YtpkdacjndoiabaaGreatDoorAbsN
import Derived.Deep.Upon
set_option linter.unusedSimpArgs false
namespace Go.Abs
variable {P:Program}
theorem FG:∀{t:List Lf} {x:den t},∀u∈vals t x,u.oneCell'=true
 | [],_,u,h=>by simp [vals] at h
 | [a],x,u,h=>by
  simp only [vals,D6] at h
  subst h
  cases a<;>rfl
 | a::b::l,x,u,h=>by
  simp only [vals,dl] at h
  rcases h with rfl | h
  ·cases a<;>rfl
  ·exact FG (t:=b::l) u (by simpa using h)
theorem vq {t:List Lf} {l:List (den t)}:∀u∈l.flatMap (vals t),u.oneCell'=true:=by
 intro u h
 obtain ⟨x,_,hx⟩:=List.mem_flatMap.1 h
 exact FG u hx
theorem mD {t t':List Lf} {l:List (den t)} {m:List (den t')} (h:lz t t' l=some m):∃e:t=t',m=e▸l:=by
 unfold lz at h
 split at h
 ·rename_i e
  simp only [aq] at h
  exact ⟨e,h.symm⟩
 ·cases h
theorem zV {w:World} {r:Nat} {cs:Array Value} {e:TypeId} {fr:Nat×Nat} (h:w.heap[r]?=some (.cells cs e fr)) {off o:Nat} {news:List Value} {m:Nat} (hn:(((cs.toList.drop o).take m).drop off).take news.length=news):
  ∀j u,news[j]?=some u->w.cell? ((⟨r,o+off,none⟩:Addr).add j)=some u:=by
 intro j u hj
 have hlt:j<news.length:=by
  rcases aG j news.length with h' | h'
  ·exact h'
  ·rw [gU h'] at hj;cases hj
 rw [mK,bH h]
 have h2:=dm (λq:List Value=>q[j]?) hn
 simp only [pN hlt,mn,hj] at h2
 by_cases hm:off+j<m
 ·rw [pN hm,mn] at h2
  simpa [gO] using h2
 ·rw [gU (by rw [cO];omega)] at h2;cases h2
theorem Src.empty {w:World} {size:Nat} {tx e':TypeId} (hd:P.underlying tx=some (.slice e')) (ao:Option Addr):Src P size tx (.slice ao 0 0) 0 [] w:=by
 cases ao with
 | none=>exact Src.ofNil w hd 0
 | some a=>exact Src.ofSlice w hd a 0 0 [] (by simp) (λj u hj=>by simp at hj) (λu hu=>by cases hu)
theorem GQ (size:Nat) (ao:Option Addr) (w:World):(Builtin.firstCells size 0 (.slice ao 0 0)).run P w=.ok #[] w:=by
 cases ao with
 | none=>exact run_firstCells_none _ _ _ _ _
 | some a=>exact run_firstCells_some w size 0 a 0 0 [] (by simp) (λj u hj=>by simp at hj)
theorem HM {ι:Inj} {H:List (Nat×Blk)} {nb:Nat} {w:World} (hW:WR ι H nb w) {b:V} {Y:Value} (hY:VR ι b Y) {tr:List Lf} {t2:TypeId} {m:List (den tr)} (h:srcK P H tr t2 b=some m)
  {size:Nat} (hs:tr.length=size):Src P size t2 Y m.length (m.flatMap (vals tr)) w:=by
 unfold srcK at h
 split at h
 ·rename_i e hd
  split at h
  ·simp only [aq] at h;subst h
   simp only [VR] at hY;subst hY
   exact Src.ofNil w hd 0
  ·rename_i c
   split at h
   case h_2=>cases h
   rename_i t l hb
   obtain ⟨rfl,rfl⟩:=mD h
   simp only [VR] at hY
   rcases jh hW hb with ⟨q,cs,e',fr,q1,q2,q4,q5,q6,q7,_⟩ | ⟨q1,rfl⟩
   ·rcases hY with ⟨q',h5,rfl⟩ | ⟨h5,_⟩
    ·rw [h5] at q1;cases q1
     rw [<-q4]
     refine Src.ofSlice w hd _ _ _ _ (by rw [nK,hs]) (zV (off:=0) q2 (m:=m.length*t.length) ?_) vq
     rw [q7,gy,oU]
    ·rw [h5] at q1;cases q1
   ·rcases hY with ⟨q,h5,_⟩ | ⟨h5,ao,rfl⟩
    ·rw [h5] at q1;cases q1
    ·exact Src.empty hd ao
  ·rename_i zz c j n _
   split at h
   case h_2=>cases h
   rename_i t l hb
   split at h
   case h_2=>cases h
   rename_i hz
   have hz:=bE hz
   obtain ⟨hle,h⟩:=eO h
   have hle:=aI hle
   obtain ⟨rfl,rfl⟩:=mD h
   have hl:((l.drop j).take n).length=n:=by rw [cO,co];omega
   simp only [VR] at hY
   rw [hl]
   rcases hY with ⟨q,cp,off,h5,g1,g2,rfl⟩ | ⟨h5,⟨rfl,_⟩,ao,rfl⟩
   ·rcases jh hW hb with ⟨q',cs,e',fr,q1,q2,q4,q5,q6,q7,_⟩ | ⟨q1,rfl⟩
    ·rw [h5] at q1;cases q1
     refine Src.ofSlice w hd _ _ _ _ (by rw [nK,hl,hs]) ?_ vq
     by_cases hn:0<n
     ·rw [g2 hn,hz]
      refine zV q2 (m:=l.length*t.length) ?_
      rw [q7,<-xw,nK,hl,<-vF]
     ·have hn:n=0:=by omega
      subst hn
      intro j u hj
      simp at hj
    ·rw [h5] at q1;cases q1
   ·simp only [nM,List.flatMap_nil]
    exact Src.empty hd ao
  ·cases h
 ·rename_i hd
  split at h
  case h_2=>cases h
  rename_i l
  obtain ⟨rfl,rfl⟩:=mD h
  simp only [VR] at hY;subst hY
  simp only [aD,bj] at hs
  subst hs
  have:=Src.ofString (P:=P) w hd ⟨l.toArray⟩
  have e1:byteCells ⟨l.toArray⟩=(l.map λb=>((b.toNat:Nat):Int)).flatMap (vals [.i .u8]):=by
   rw [rj]
   simp [byteCells]
  have e2:(ByteArray.mk l.toArray).size=(l.map λb=>((b.toNat:Nat):Int)).length:=by rw [uz];rfl
  rw [e1,e2] at this
  exact this
 ·cases h
theorem Inv.rebind {n:Nat} {ι0 ι:Inj} {w0:Base} {w w':World} {s s1:St} {a:Act} {c nb':Nat} {ρ:Option Rf} {blk:Blk} {v:V} {x:Value} {dst:Option Nat} (hI:Inv n ι0 w0 ι s a w)
  (hT:TR (upd ι c ρ) s1.T a.tmps) (hH:∀b y,b≠c->look s1.H b=some y->y≠.dead->∃y0,look s.H b=some y0/\y0≠.dead/\(∀q o,BR ι q y0 o->BR (upd ι c ρ) q y o)/\∀t,y0=.rows t []->y=.rows t [])
  (hlo:s1.lo=s.lo) (hro:s1.ro=s.ro) (hrb:s1.rb=s.rb) (hnb:s.nb<=nb') (hc:c<nb') (hd:ul n dst=true)
  (h1:∀b q,b≠c->ι b=some (some q)->w'.heap[q.r]?=w.heap[q.r]?) (h2:BW (upd ι c ρ) w' c blk) (h3:∀q,ρ=some q->q.r<w'.heap.size/\(∀b q',b≠c->ι b=some (some q')->q'.r≠q.r)/\
   ((∃q0,ι0 c=some (some q0)/\q0.r=q.r)\/w0.w.heap.size<=q.r)/\q.fz=false) (h4:w.heap.size<=w'.heap.size) (h5:Fr (roI ι0 s.ro) w0.w w') (h6:∀q,ι0 c=some q->s.rb<=c)
  (hv:VR (upd ι c ρ) v x):Inv n ι0 w0 (upd ι c ρ) (s1.app dst (some v) [(c,blk)] nb') (a.put dst x) w':=by
 have hold:∀b,b≠c->upd ι c ρ b=ι b:=λb hb=>by simp [upd,hb]
 have hnew:upd ι c ρ c=some ρ:=by simp [upd]
 refine ⟨by rw [mP];exact hI.size,by rw [je];exact hI.defers,hT.app hI.size hd (λu hu=>by cases hu;exact hv),⟨λb b' q q' e1 e2 e3=>?_,λb q e=>?_,λb q e=>?_,λb y hl hdead=>?_⟩,λb q e=>?_,λb q e=>?_,?_,?_,λb q e hq=>?_,by simp only [St.app,hro];exact hI.gl⟩
 ·by_cases hb:b=c
  ·by_cases hb':b'=c
   ·exact .inl (by rw [hb,hb'])
   ·subst hb
    rw [hnew] at e1
    rw [hold b' hb'] at e2
    simp only [aq] at e1
    exact absurd e3.symm ((h3 q e1).2.1 b' q' hb' e2)
  ·rw [hold b hb] at e1
   by_cases hb':b'=c
   ·subst hb'
    rw [hnew] at e2
    simp only [aq] at e2
    exact absurd e3 ((h3 q' e2).2.1 b q hb e1)
   ·rw [hold b' hb'] at e2
    exact hI.mem.inj b b' q q' e1 e2 e3
 ·by_cases hb:b=c
  ·rw [hb];exact hc
  ·rw [hold b hb] at e
   have:=hI.mem.low b q e
   exact qj this hnb
 ·by_cases hb:b=c
  ·subst hb
   rw [hnew] at e
   simp only [aq] at e
   exact (h3 q e).1
  ·rw [hold b hb] at e
   exact qj (hI.mem.dom b q e) h4
 ·simp only [St.app,fP,dQ,aU] at hl
  split at hl
  ·rename_i e;subst e
   simp only [aq] at hl;subst hl
   exact h2
  ·rename_i hne
   obtain ⟨y0,g1,g2,g3,g4⟩:=hH b y (λe=>hne e.symm) hl hdead
   exact (hI.mem.blk b y0 g1 g2).map (hold b (λe=>hne e.symm)) (λq hq=>h1 b q (λe=>hne e.symm) hq) g3 g4
 ·by_cases hb:b=c
  ·subst hb
   exact .inr (by simp only [St.app,hrb];exact h6 q e)
  ·rw [hold b hb]
   simp only [St.app,hrb]
   exact hI.ext b q e
 ·by_cases hb:b=c
  ·subst hb
   rw [hnew] at e
   simp only [aq] at e
   exact (h3 q e).2.2.1
  ·rw [hold b hb] at e
   exact hI.new b q e
 ·simp only [St.app,hro];exact h5
 ·simp only [St.app,hlo];exact hI.low
 ·simp only [St.app,hro]
  by_cases hb:b=c
  ·subst hb
   rw [hnew] at e
   simp only [aq] at e
   have:=(h3 q e).2.2.2
   rw [this] at hq;cases hq
  ·rw [hold b hb] at e
   exact hI.fz b q e hq
theorem L9 {b c:Nat} (h:isIn [c] b=false):b≠c:=by
 rintro rfl
 simp [isIn] at h
theorem yP {ι:Inj} {c:Nat} {ρ:Option Rf}:∀b,isIn [c] b=false->∀q,ι b=some q->upd ι c ρ b=some q:=by
 intro b hb q hq
 have:=L9 hb
 simp [upd,this,hq]
theorem ox {o:Oper} {a:Act} {w:World} {args:Array Operand} {tys:Array TypeId} {x y:Operand} {t t2:TypeId} {X:Value} {w':World} (ho:o.op=.call ⟨.builtin .append,args,tys⟩) (hx:args.toList=[x,y]) (ht:tys.toList=[t,t2])
  (h:∀ty,(Builtin.append_ #[t,t2] ty #[a.eval x,a.eval y]).run P w=.ok X w'):(execOp a.eval o).run P w=.ok (.value X) w':=by
 have hA:args.map a.eval=#[a.eval x,a.eval y]:=by apply lP;simp [hx]
 have hty:tys=#[t,t2]:=by apply lP;simp [ht]
 simp only [execOp,ho,resolve,hA,hty,aw,aA,ay,invoke,builtin,h]
theorem tz {o:Oper} {a:Act} {w w':World} {X:Value} (h:(execOp a.eval o).run P w=.ok (.value X) w') {next:Act->World->Prop} {Q:Exit->Act->World->Prop} (hn:next (a.put o.dst X) w'):o.wp P a w next Q:=by
 unfold Oper.wp
 rw [h]
 exact hn
theorem J8 {need cap bytes:Nat} (h1:need<=gD) (h2:cap<need) (h3:bytes<=1048576):Builtin.nextslicecap need cap*bytes<=281474976710656:=by
 have h1:need<=67108864:=h1
 have key:Builtin.nextslicecap need cap<=2*need+768:=by
  have gb:∀(m c:Nat),c<=2*need+768->Builtin.growBy need m c<=2*need+768:=by
   intro m
   induction m with
   | zero=>intro c hc;exact hc
   | succ m ih=>
    intro c hc
    unfold Builtin.growBy
    split
    ·exact hc
    ·exact ih _ (by omega)
  unfold Builtin.nextslicecap
  split
  ·omega
  ·split
   ·omega
   ·exact gb 4 cap (by omega)
 have h4:=C9 (show Builtin.nextslicecap need cap<=134218496 by omega) h3
 exact qC h4 (by decide)
theorem FD {ι:Inj} {tr:List Lf} {l m:List (den tr)} {e:TypeId} {zc:Array Value} {cap r:Nat} (hz:zc.size=tr.length) (hcap:l.length+m.length<=cap):
  BR ι (Rf.of r (l.length+m.length) cap) (.rows tr (l++m)) (.cells ((l.flatMap (vals tr)++m.flatMap (vals tr)).toArray++Builtin.zeroCells zc (cap - (l.length+m.length))) e):=by
 have hl:=nK (t:=tr) l
 have hm:=nK (t:=tr) m
 have hzs:(Builtin.zeroCells zc (cap - (l.length+m.length))).size=(cap - (l.length+m.length))*tr.length:=by simp [Builtin.zeroCells,hz]
 refine ⟨_,e,(0,0),rfl,by simp,hcap,?_,?_,.inr (rX _)⟩
 ·simp only [Array.size_append,hzs,xl,aM,hl,hm]
  rw [<-gL,<-gL,cY]
  exact nX _ (by omega)
 ·rw [wa,aM,gL,Jf]
  have:l.length*tr.length+m.length*tr.length=(l.flatMap (vals tr)++m.flatMap (vals tr)).length:=by rw [aM,hl,hm]
  rw [this]
  exact List.take_left
theorem yV {tr:List Lf} {e:TypeId} (h:MJ P tr e=true):∃i z,P.info? e=some i/\i.zero=some z/\z.cells.size=tr.length/\tr.length=i.size/\0<tr.length/\i.bytes<=1048576:=by
 unfold MJ at h
 split at h
 ·rename_i i hi
  split at h
  ·rename_i z hz
   simp only [az,iV] at h
   obtain ⟨h1,h2,h3,h4⟩:=h
   have hsz:i.size=P.cellsOf e:=by unfold Program.cellsOf;rw [hi];rfl
   have h3:0<P.cellsOf e:=aI h3
   exact ⟨i,z,hi,hz,by omega,by omega,by omega,aI h4⟩
  ·cases h
 ·cases h
theorem GK {α:Type} {n fr:Nat} {ι0 ι:Inj} {w0:Base} {s:St} {o:Oper} {a:Act} {w:World} {args:Array Operand} {tys:Array TypeId} (ho:o.op=.call ⟨.builtin .append,args,tys⟩) (hI:Inv n ι0 w0 ι s a w)
  (hfr:ι fr=none) (hge:s.nb<=fr) {k:St->Option α} {z:α} (h:DK P n fr o.dst args.toList tys.toList s k=some z)
  {next:Act->World->Prop} {Q:Exit->Act->World->Prop} (hn:∀s' ι' a' w',k s'=some z->Inv n ι0 w0 ι' s' a' w'->next a' w'):o.wp P a w next Q:=by
 unfold DK at h
 split at h
 case h_2=>cases h
 rename_i x y t t2 hd hx ht
 split at h
 case h_2=>cases h
 rename_i e hte
 obtain ⟨u,hu,q1⟩:=av h
 obtain ⟨v,hv,q2⟩:=av q1
 clear h q1
 have hX:=bn hI.tmps hu
 have hY:=bn hI.tmps hv
 have hfr0:∀q,ι0 fr=some q->s.rb<=fr:=by
  intro q hq
  rcases hI.ext fr q hq with h | h
  ·rw [hfr] at h;cases h
  ·exact h
 split at q2
 ·
  simp only [VR] at hX
  split at q2
  case h_2=>cases q2
  rename_i tr _
  split at q2
  case h_2=>cases q2
  rename_i hok
  obtain ⟨i,zv,hi,hz,k1,k2,k3,k4⟩:=yV hok
  obtain ⟨m,hm,q2⟩:=av q2
  obtain ⟨hle,q2⟩:=eO q2
  have hle:=aI hle
  have hle':m.length<=67108864:=hle
  have hsrc:=HM hI.mem hY hm k2
  have hTm:=hI.tmps.mono (oN (r:=none) hfr)
  have mem0:∀{ρ:Option Rf} b y,b≠fr->look s.H b=some y->y≠.dead->∃y0,look s.H b=some y0/\y0≠.dead/\(∀q o,BR ι q y0 o->BR (upd ι fr ρ) q y o)/\∀t,y0=.rows t []->y=.rows t []:=
   λb y _ hl hdd=>⟨y,hl,hdd,λq o hb=>BR.mono (oN hfr) hb,λ_ h=>h⟩
  by_cases h0:m.length=0
  ·have hm0:m=[]:=yx h0
   subst hm0
   have hrun:=ox (P:=P) (X:=.slice none 0 0) (w':=w) ho hx ht λty=>by
    rw [hX]
    have:=run_append_nothing (P:=P) w t t2 ty e i hte hi none 0 0 (aV _) (a.eval y) (by simpa using hsrc)
    simpa using this
   refine tz hrun (hn _ (upd ι fr none) _ _ q2 (Inv.rebind hI hTm mem0 rfl rfl rfl (Db _ _) (by omega) hd (λ_ _ _ _=>rfl) (.inr ⟨dk _ _ _,tr,rfl⟩) (λq hq=>by cases hq) (aV _) hI.fr hfr0 ?_))
   unfold VR;exact .inr ⟨dk _ _ _,_,rfl⟩
  ·have hcap:m.length<=grownCap w m.length 0 e:=by simp only [grownCap,Question.cut];omega
   have hrun:=ox (P:=P) (X:=.slice (some ⟨w.heap.size,0,none⟩) m.length (grownCap w m.length 0 e))
     (w':=w.drew.alloc (.cells ((m.flatMap (vals tr)).toArray++Builtin.zeroCells zv.cells (grownCap w m.length 0 e - m.length)) e)) ho hx ht λty=>by
    rw [hX]
    have:=run_append_grow_src (P:=P) w t t2 ty e i zv hte hi hz none 0 0 [] (run_firstCells_none _ _ _ _ _) (a.eval y) m.length _ hsrc (by omega) (by omega) (J8 (by simpa using hle) (by omega) k4)
    simpa using this
   refine tz hrun (hn _ (upd ι fr (some (Rf.of w.heap.size (m.length) (grownCap w m.length 0 e)))) _ _ q2 (Inv.rebind hI (hI.tmps.mono (oN hfr)) mem0 rfl rfl rfl (Db _ _) (by omega) hd (λb q hb hq=>?_)
    (.inl ⟨_,_,dk _ _ _,jw _ _,?_⟩) (λq hq=>?_) (by show w.heap.size<=(w.heap.push _).size;simp) (by exact (hI.fr.draws (w.drawn+1)).alloc _) hfr0 ?_))
   ·exact jD _ _ (Ao (hI.mem.dom b q hq))
   ·have:=FD (ι:=upd ι fr (some (Rf.of w.heap.size (m.length) (grownCap w m.length 0 e)))) (tr:=tr) (l:=[]) (m:=m) (e:=e) (zc:=zv.cells) (cap:=grownCap w m.length 0 e) (r:=w.heap.size) k1 (by simpa using hcap)
    simpa using this
   ·simp only [aq] at hq;subst hq
    refine ⟨by show w.heap.size<(w.heap.push _).size;simp,λb q' _ hq'=>Ao (hI.mem.dom b q' hq'),.inr hI.fr.size,rfl⟩
   ·simp only [VR];exact .inl ⟨_,dk _ _ _,rfl⟩
 ·rename_i c
  simp only [VR] at hX
  split at q2
  case h_2=>cases q2
  rename_i tr l hb
  split at q2
  case h_2=>cases q2
  rename_i hok
  simp only [az] at hok
  obtain ⟨hok,hroc,hrbc⟩:=hok
  have hroc:=aI hroc
  have hrbc:=aI hrbc
  obtain ⟨i,zv,hi,hz,k1,k2,k3,k4⟩:=yV hok
  obtain ⟨m,hm,q2⟩:=av q2
  obtain ⟨hle,q2⟩:=eO q2
  have hle:=aI hle
  have hle':l.length+m.length<=67108864:=hle
  have hsrc:=HM hI.mem hY hm k2
  have hTk:∀{ρ:Option Rf},TR (upd ι c ρ) (s.kill [c]).T a.tmps:=by
   intro ρ
   rw [St.kill_eq]
   exact hI.tmps.kill yP
  have mem0:∀{ρ:Option Rf} b y,b≠c->look (s.kill [c]).H b=some y->y≠.dead->∃y0,look s.H b=some y0/\y0≠.dead/\(∀q o,BR ι q y0 o->BR (upd ι c ρ) q y o)/\∀t,y0=.rows t []->y=.rows t []:=by
   intro ρ b y hbc hl hdd
   rw [St.kill_eq] at hl
   simp only [ue] at hl
   cases hy:look s.H b with
   | none=>rw [hy] at hl;cases hl
   | some y0=>
    rw [hy] at hl
    simp only [eK,aq] at hl
    subst hl
    exact ⟨y0,rfl,by rintro rfl;exact hdd rfl,λq o hbr=>BR.kill yP hbr,by rintro t rfl;rfl⟩
  have hlo:(s.kill [c]).lo=s.lo:=by rw [St.kill_eq]
  have hro:(s.kill [c]).ro=s.ro:=by rw [St.kill_eq]
  have hrb:(s.kill [c]).rb=s.rb:=by rw [St.kill_eq]
  have hcn:c<s.nb:=by
   rcases hI.mem.blk c _ hb (by simp) with ⟨q,_,h1,_⟩ | ⟨h1,_⟩
   ·exact hI.mem.low c _ h1
   ·exact hI.mem.low c _ h1
  have grow:∀{base:Option Addr} {cp:Nat},a.eval x=.slice base l.length cp->(Builtin.firstCells i.size l.length (.slice base l.length cp)).run P w.drew=.ok (l.flatMap (vals tr)).toArray w.drew->cp<l.length+m.length->o.wp P a w next Q:=by
   intro base cp hX hold hlt
   have hcap:l.length+m.length<=grownCap w (l.length+m.length) cp e:=by simp only [grownCap,Question.cut];omega
   have hrun:=ox (P:=P) (X:=.slice (some ⟨w.heap.size,0,none⟩) (l.length+m.length) (grownCap w (l.length+m.length) cp e))
     (w':=w.drew.alloc (.cells ((l.flatMap (vals tr)++m.flatMap (vals tr)).toArray++Builtin.zeroCells zv.cells (grownCap w (l.length+m.length) cp e - (l.length+m.length))) e)) ho hx ht λty=>by
    rw [hX]
    exact run_append_grow_src (P:=P) w t t2 ty e i zv hte hi hz base l.length cp _ hold (a.eval y) m.length _ hsrc hlt (by omega) (J8 hle hlt k4)
   refine tz hrun (hn _ (upd ι c (some (Rf.of w.heap.size (l.length+m.length) (grownCap w (l.length+m.length) cp e)))) _ _ q2 (Inv.rebind hI hTk mem0 hlo hro hrb (aV _) hcn hd (λb q hb hq=>?_)
    (.inl ⟨_,_,dk _ _ _,jw _ _,FD k1 hcap⟩) (λq hq=>?_) (by show w.heap.size<=(w.heap.push _).size;simp) (by exact (hI.fr.draws (w.drawn+1)).alloc _) (λ_ _=>hrbc) ?_))
   ·exact jD _ _ (Ao (hI.mem.dom b q hq))
   ·simp only [aq] at hq;subst hq
    refine ⟨by show w.heap.size<(w.heap.push _).size;simp,λb q' _ hq'=>Ao (hI.mem.dom b q' hq'),.inr hI.fr.size,rfl⟩
   ·simp only [VR];exact .inl ⟨_,dk _ _ _,rfl⟩
  rcases jh hI.mem hb with ⟨q,cs,e',fz,q1,g2,g4,g5,g6,g7,g8⟩ | ⟨q1,rfl⟩
  ·rcases hX with ⟨q',h5,hX⟩ | ⟨h5,_⟩
   ·rw [h5] at q1;cases q1
    have hqz:q.fz=false:=by
     cases hc:q.fz with
     | false=>rfl
     | true=>have:=hI.fz c q h5 hc;omega
    have g8:=g8.resolve_left (by rw [hqz];simp)
    by_cases hroom:q.n+m.length<=q.k
    ·have hmz:=nK (t:=tr) m
     have hbound:q.o+q.n*tr.length+m.length*tr.length<=cs.size:=by
      have h1:=nX tr.length hroom
      rw [gL] at h1
      omega
     have hcell:∀j,j<(m.flatMap (vals tr)).length->w.cell? ⟨q.r,q.o+q.n*i.size+j,none⟩=cs[q.o+q.n*tr.length+j]?:=by
      intro j hj
      rw [bH g2,<-k2]
     have hfz:∀j,j<(m.flatMap (vals tr)).length->w.frozen? ⟨q.r,q.o+q.n*i.size+j,none⟩=false:=by
      intro j hj
      exact qm g2 g8 (by rw [<-k2];omega)
     have hst:=ku (P:=P) q.r (q.o+q.n*i.size) e' fz (m.flatMap (vals tr)) 0 cs w g2 g8 (by rw [hmz,<-k2];omega) vq
     have hst2:=run_storeCells_cells (P:=P) q.r (q.o+q.n*i.size) (m.flatMap (vals tr)) 0 w (by
      intro j hj
      rw [cD,hcell j hj]
      simp;omega) (by intro j hj;rw [cD];exact hfz j hj) vq
     have hw:w.setCells q.r (q.o+q.n*i.size) (m.flatMap (vals tr))=setObj w q.r (.cells (splA cs (q.o+q.n*tr.length) (m.flatMap (vals tr))) e' fz):=by
      rw [hst] at hst2
      simp only [cD,wo,js,<-k2] at hst2
      rw [<-k2]
      exact hst2.symm
     have hrun:=ox (P:=P) (X:=.slice (some ⟨q.r,q.o,none⟩) (q.n+m.length) q.k) (w':=setObj w q.r (.cells (splA cs (q.o+q.n*tr.length) (m.flatMap (vals tr))) e' fz)) ho hx ht λty=>by
      rw [hX,<-hw]
      exact run_append_room_src (P:=P) w t t2 ty e i hte hi q.r q.o q.n q.k (a.eval y) m.length _ hsrc hroom (λj hj=>by rw [hcell j hj];simp;omega) hfz
     have hssz:(splA cs (q.o+q.n*tr.length) (m.flatMap (vals tr))).size=cs.size:=vZ (by rw [hmz];exact hbound)
     refine tz hrun (hn _ (upd ι c (some ⟨q.r,q.n+m.length,q.k,q.o,q.fz⟩)) _ _ q2 (Inv.rebind hI hTk mem0 hlo hro hrb (aV _) hcn hd (λb p hbc hp=>rN _ λer=>hbc ((hI.mem.inj c b q p h5 hp er).resolve_right λhh=>by rw [hqz] at hh;cases hh.1).symm)
      (.inl ⟨_,_,dk _ _ _,xm g2,⟨_,e',fz,rfl,by simp [g4],hroom,by rw [hssz];exact g6,?_,.inr (by rw [hssz];exact g8)⟩⟩) (λp hp=>?_) (by simp [setObj]) ?_ (λ_ _=>hrbc) ?_))
     ·show ((splA cs (q.o+q.n*tr.length) (m.flatMap (vals tr))).toList.drop q.o).take _=_
      rw [CE (by omega),aM,g4,Jf,<-g7,g4]
      have hdl:(cs.toList.drop q.o).length=cs.size - q.o:=by simp
      rw [gL,<-jr,uu (by rw [aM,cO,hdl,hmz];omega)]
      rw [iP (by rw [aM,cO,hdl,hmz];omega)]
     ·simp only [aq] at hp;subst hp
      refine ⟨by have:=hI.mem.dom c q h5;simpa [setObj] using this,λb p' hbc hp' er=>hbc ((hI.mem.inj b c p' q hp' h5 er).resolve_right λhh=>by rw [hqz] at hh;cases hh.2),hI.new c q h5,hqz⟩
     ·exact hI.fr.write ((hI.new c q h5).imp (λ⟨q0,h,hr⟩=>⟨c,q0,Bl h hroc,hr⟩) id) _
     ·simp only [VR];exact .inl ⟨_,dk _ _ _,rfl⟩
    ·refine grow (base:=some ⟨q.r,q.o,none⟩) (cp:=q.k) (by rw [hX,g4]) ?_ (by omega)
     have hfl:=nK (t:=tr) l
     exact run_firstCells_some w.drew i.size l.length ⟨q.r,q.o,none⟩ l.length q.k _ (by rw [hfl,k2]) (zV (off:=0) (w:=w.drew) g2 (m:=l.length*tr.length) (by rw [g7,gy,oU]))
   ·rw [h5] at q1;cases q1
  ·rcases hX with ⟨q',h5,hX⟩ | ⟨h5,ao,hX⟩
   ·rw [h5] at q1;cases q1
   ·by_cases h0:m.length=0
    ·have hm0:m=[]:=yx h0
     subst hm0
     have hrun:=ox (P:=P) (X:=.slice ao 0 0) (w':=w) ho hx ht λty=>by
      rw [hX]
      have:=run_append_nothing (P:=P) w t t2 ty e i hte hi ao 0 0 (aV _) (a.eval y) (by simpa using hsrc)
      simpa using this
     refine tz hrun (hn _ (upd ι c none) _ _ q2 (Inv.rebind hI hTk mem0 hlo hro hrb (aV _) hcn hd (λ_ _ _ _=>rfl) (.inr ⟨dk _ _ _,tr,rfl⟩) (λq hq=>by cases hq) (aV _) hI.fr (λ_ _=>hrbc) ?_))
     unfold VR;exact .inr ⟨dk _ _ _,_,rfl⟩
    ·exact grow (base:=ao) (cp:=0) (by rw [hX];rfl) (GQ _ _ _) (by simp;omega)
 ·cases q2
theorem ze {α:Type} {E:List Ent} (hE:∀x∈E,gN P x) {n fr:Nat} {ι0 ι:Inj} {w0:Base} {s:St} {o:Oper} {a:Act} {w:World} (hI:Inv n ι0 w0 ι s a w)
  (hfr:∀b,fr<=b->ι b=none) (hge:s.nb<=fr) {k:St->Option α} {kp:V->St->Option α} {z:α} (h:Iw P E n fr o s k kp=some z)
  {next:Act->World->Prop} {Q:Exit->Act->World->Prop}
  (hn:∀s' ι' a' w',k s'=some z->Inv n ι0 w0 ι' s' a' w'->next a' w')
  (hp:∀v s' ι' x a' w',kp v s'=some z->VR ι' v x->Inv n ι0 w0 ι' s' a' w'->Q (.panic [{ v:=x,recovered:=false }]) a' w'):
  o.wp P a w next Q:=by
 unfold Iw at h
 split at h
 ·rename_i cl hop
  split at h
  ·rename_i g hcal
   split at h
   ·rename_i f cap hd hg
    obtain ⟨l,hl,h⟩:=av h
    obtain ⟨r,h2,h3⟩:=vd hE h
    split at h2
    ·cases h2
    rename_i hgr
    simp only [az] at hgr
    obtain ⟨callee,args,tys⟩:=cl
    simp only at hcal
    subst hcal
    refine zJ hop hI (λb e1 _=>hfr b e1) hd hg hl hgr.1 hgr.2 (h3 _ λ_ _=>rfl) (λhpan ι' a' w' _ hI'=>?_) (λhpan ι' x w' g1 hI'=>?_)
    ·rw [hpan] at h2
     exact hn _ ι' a' w' h2 hI'
    ·rw [hpan] at h2
     exact hp _ _ ι' x a w' h2 g1 hI'
   ·cases h
  ·rename_i hcal
   obtain ⟨callee,args,tys⟩:=cl
   simp only at hcal
   subst hcal
   exact GK hop hI (hfr fr (aV _)) hge h hn
  ·exact FX hE hI (λb hb _=>hfr b hb) h (λs' _ _ _ ι' a' w' hk _ hI''=>hn s' ι' a' w' hk hI'') hp
 ·exact FX hE hI (λb hb _=>hfr b hb) h (λs' _ _ _ ι' a' w' hk _ hI''=>hn s' ι' a' w' hk hI'') hp
end Go.Abs
