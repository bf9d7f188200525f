
/- append, and calls that move rows.
   Conditions: none; generic over the program. -/
import Derived.Test.YtaogbalpingjhaaGreatDoorAbsN
import Derived.Deep.Upon
set_option linter.unusedSimpArgs false
set_option linter.unusedVariables false
namespace Go.Abs
variable {P:Program}
theorem En:∀{t:List Lf} {x:den t},∀u∈vals t x,u.oneCell'=true
 | [],_,u,h=>by simp [vals] at h
 | [a],x,u,h=>by
  simp only [vals,tJ] at h;subst h;cases a<;>rfl
 | a::b::l,x,u,h=>by
  simp only [vals,cq] at h;rcases h with rfl | h
  ·cases a<;>rfl
  ·exact En (t:=b::l) u (by simpa using h)
theorem sY {t:List Lf} {l:List (den t)}:∀u∈l.flatMap (vals t),u.oneCell'=true:=by
 intro u h;obtain ⟨x,_,hx⟩:=List.mem_flatMap.1 h;exact En u hx
theorem lh {t a:List Lf} {l:List (den t)} {m:List (den a)} (h:ki t a l=some m):∃e:t=a,m=e▸l:=by
 unfold ki at h;split at h
 ·rename_i e;simp only [ah] at h;exact ⟨e,h.symm⟩
 ·cases h
theorem xp {w:World} {r:Nat} {f:Array Value} {e:TypeId} {fr:Nat×Nat} (h:w.heap[r]?=some (.cells f e fr)) {off o:Nat} {news:List Value} {m:Nat} (i:(((f.toList.drop o).take m).drop off).take news.length=news):
  ∀j u,news[j]?=some u->w.cell? ((⟨r,o+off,none⟩:Addr).add j)=some u:=by
 intro j u b;have d:j<news.length:=by
  rcases aE j news.length with c | c
  ·exact c
  ·rw [eX c] at b;cases b
 rw [kW,aV h];have a:=ck (λq:List Value=>q[j]?) i;simp only [ow d,kO,b] at a;by_cases g:off+j<m
 ·rw [ow g,kO] at a;simpa [gG] using a
 ·rw [eX (by rw [eT];omega)] at a;cases a
theorem Src.empty {w:World} {size:Nat} {E G:TypeId} (F:P.underlying E=some (.slice G)) (C:Option Addr):Src P size E (.slice C 0 0) 0 [] w:=by
 cases C with
 | none=>exact Src.ofNil w F 0
 | some a=>exact Src.ofSlice w F a 0 0 [] (by simp) (λj u J=>by simp at J) (λu O=>by cases O)
theorem Ge (size:Nat) (b:Option Addr) (w:World):(Builtin.firstCells size 0 (.slice b 0 0)).run P w=.ok #[] w:=by
 cases b with
 | none=>exact run_firstCells_none _ _ _ _ _
 | some a=>exact run_firstCells_some w size 0 a 0 0 [] (by simp) (λj u c=>by simp at c)
theorem Hg {ι:Inj} {H:List (Nat×Blk)} {nb:Nat} {w:World} (z:WR ι H nb w) {b:V} {Y:Value} (f:VR ι b Y) {tr:List Lf} {A:TypeId} {m:List (den tr)} (h:srcK P H tr A b=some m)
  {size:Nat} (hs:tr.length=size):Src P size A Y m.length (m.flatMap (vals tr)) w:=by
 unfold srcK at h;split at h
 ·rename_i e g;split at h
  ·simp only [ah] at h;subst h;simp only [VR] at f;subst f;exact Src.ofNil w g 0
  ·rename_i c;split at h
   case h_2=>cases h
   rename_i t l r;obtain ⟨rfl,rfl⟩:=lh h;simp only [VR] at f;rcases ib z r with ⟨q,G,J,fr,a,v,B,L,I,y,_⟩ | ⟨a,rfl⟩
   ·rcases f with ⟨E,d,rfl⟩ | ⟨d,_⟩
    ·rw [d] at a;cases a;rw [<-B];refine Src.ofSlice w g _ _ _ _ (by rw [lY,hs]) (xp (off:=0) v (m:=m.length*t.length) ?_) sY;rw [y,cH,me]
    ·rw [d] at a;cases a
   ·rcases f with ⟨q,d,_⟩ | ⟨d,s,rfl⟩
    ·rw [d] at a;cases a
    ·exact Src.empty g s
  ·rename_i N c j n _;split at h
   case h_2=>cases h
   rename_i t l r;split at h
   case h_2=>cases h
   rename_i p;have p:=be p;obtain ⟨k,h⟩:=dh h;have k:=aD k;obtain ⟨rfl,rfl⟩:=lh h;have x:((l.drop j).take n).length=n:=by rw [eT,cZ];omega
   simp only [VR] at f;rw [x];rcases f with ⟨q,cp,off,d,M,C,rfl⟩ | ⟨d,⟨rfl,_⟩,s,rfl⟩
   ·rcases ib z r with ⟨E,G,J,fr,a,v,B,L,I,y,_⟩ | ⟨a,rfl⟩
    ·rw [d] at a;cases a;refine Src.ofSlice w g _ _ _ _ (by rw [lY,x,hs]) ?_ sY;by_cases o:0<n
     ·rw [C o,p];refine xp v (m:=l.length*t.length) ?_;rw [y,<-tP,lY,x,<-uO]
     ·have o:n=0:=by omega
      subst o;intro j u K;simp at K
    ·rw [d] at a;cases a
   ·simp only [kG,List.flatMap_nil];exact Src.empty g s
  ·cases h
 ·rename_i g;split at h
  case h_2=>cases h
  rename_i l;obtain ⟨rfl,rfl⟩:=lh h;simp only [VR] at f;subst f;simp only [aG,cA] at hs;subst hs;have:=Src.ofString (P:=P) w g ⟨l.toArray⟩;have F:byteCells ⟨l.toArray⟩=(l.map λb=>((b.toNat:Nat):Int)).flatMap (vals [.i .u8]):=by
   rw [oZ];simp [byteCells]
  have D:(ByteArray.mk l.toArray).size=(l.map λb=>((b.toNat:Nat):Int)).length:=by rw [DU];rfl
  rw [F,D] at this;exact this
 ·cases h
theorem Inv.rebind {n:Nat} {ι0 ι:Inj} {w0:Base} {w w':World} {s Z:St} {a:Act} {c U:Nat} {ρ:Option Rf} {blk:Blk} {v:V} {x:Value} {dst:Option Nat} (J:Inv n ι0 w0 ι s a w)
  (hT:TR (upd ι c ρ) Z.T a.tmps) (hH:∀b y,b≠c->look Z.H b=some y->y≠.dead->∃Y,look s.H b=some Y/\Y≠.dead/\(∀q o,BR ι q Y o->BR (upd ι c ρ) q y o)/\∀t,Y=.rows t []->y=.rows t [])
  (hlo:Z.lo=s.lo) (W:Z.ro=s.ro) (hrb:Z.rb=s.rb) (hnb:s.nb<=U) (hc:c<U) (hd:rV n dst=true)
  (h1:∀b q,b≠c->ι b=some (some q)->w'.heap[q.r]?=w.heap[q.r]?) (h2:BW (upd ι c ρ) w' c blk) (h3:∀q,ρ=some q->q.r<w'.heap.size/\(∀b q',b≠c->ι b=some (some q')->q'.r≠q.r)/\
   ((∃q0,ι0 c=some (some q0)/\q0.r=q.r)\/w0.w.heap.size<=q.r)/\q.fz=false) (h4:w.heap.size<=w'.heap.size) (h5:Fr (roI ι0 s.ro) w0.w w') (h6:∀q,ι0 c=some q->s.rb<=c)
  (hv:VR (upd ι c ρ) v x):Inv n ι0 w0 (upd ι c ρ) (Z.app dst (some v) [(c,blk)] U) (a.put dst x) w':=by
 have C:∀b,b≠c->upd ι c ρ b=ι b:=λb E=>by simp [upd,E]
 have F:upd ι c ρ c=some ρ:=by simp [upd]
 refine ⟨by rw [k7];exact J.size,by rw [hZ];exact J.defers,hT.app J.size hd (λu hu=>by cases hu;exact hv),⟨λb b' q q' e1 Q e3=>?_,λb q e=>?_,λb q e=>?_,λb y hl O=>?_⟩,λb q e=>?_,λb q e=>?_,?_,?_,λb q e hq=>?_,by simp only [St.app,W];exact J.gl⟩
 ·by_cases E:b=c
  ·by_cases G:b'=c
   ·exact .inl (by rw [E,G])
   ·subst E;rw [F] at e1;rw [C b' G] at Q;simp only [ah] at e1;exact absurd e3.symm ((h3 q e1).2.1 b' q' G Q)
  ·rw [C b E] at e1;by_cases G:b'=c
   ·subst G;rw [F] at Q;simp only [ah] at Q;exact absurd e3 ((h3 q' Q).2.1 b q E e1)
   ·rw [C b' G] at Q;exact J.mem.inj b b' q q' e1 Q e3
 ·by_cases E:b=c
  ·rw [E];exact hc
  ·rw [C b E] at e;have:=J.mem.low b q e;exact mi this hnb
 ·by_cases E:b=c
  ·subst E;rw [F] at e;simp only [ah] at e;exact (h3 q e).1
  ·rw [C b E] at e;exact mi (J.mem.dom b q e) h4
 ·simp only [St.app,dL,da,aL] at hl;split at hl
  ·rename_i e;subst e;simp only [ah] at hl;subst hl;exact h2
  ·rename_i X;obtain ⟨Y,g1,g2,g3,g4⟩:=hH b y (λe=>X e.symm) hl O;exact (J.mem.blk b Y g1 g2).map (C b (λe=>X e.symm)) (λq hq=>h1 b q (λe=>X e.symm) hq) g3 g4
 ·by_cases E:b=c
  ·subst E;exact .inr (by simp only [St.app,hrb];exact h6 q e)
  ·rw [C b E];simp only [St.app,hrb];exact J.ext b q e
 ·by_cases E:b=c
  ·subst E;rw [F] at e;simp only [ah] at e;exact (h3 q e).2.2.1
  ·rw [C b E] at e;exact J.new b q e
 ·simp only [St.app,W];exact h5
 ·simp only [St.app,hlo];exact J.low
 ·simp only [St.app,W];by_cases E:b=c
  ·subst E;rw [F] at e;simp only [ah] at e;have:=(h3 q e).2.2.2;rw [this] at hq;cases hq
  ·rw [C b E] at e;exact J.fz b q e hq
theorem LJ {b c:Nat} (h:isIn [c] b=false):b≠c:=by
 rintro rfl;simp [isIn] at h
theorem ww {ι:Inj} {c:Nat} {ρ:Option Rf}:∀b,isIn [c] b=false->∀q,ι b=some q->upd ι c ρ b=some q:=by
 intro b d q a;have:=LJ d;simp [upd,this,a]
theorem mA {o:Oper} {a:Act} {w:World} {args:Array Operand} {b:Array TypeId} {x y:Operand} {t d:TypeId} {X:Value} {w':World} (i:o.op=.call ⟨.builtin .append,args,b⟩) (hx:args.toList=[x,y]) (e:b.toList=[t,d])
  (h:∀f,(Builtin.append_ #[t,d] f #[a.eval x,a.eval y]).run P w=.ok X w'):(execOp a.eval o).run P w=.ok (.value X) w':=by
 have g:args.map a.eval=#[a.eval x,a.eval y]:=by apply jv;simp [hx]
 have c:b=#[t,d]:=by apply jv;simp [e]
 simp only [execOp,i,resolve,g,c,aq,aB,ax,invoke,builtin,h]
theorem qY {o:Oper} {a:Act} {w w':World} {X:Value} (h:(execOp a.eval o).run P w=.ok (.value X) w') {next:Act->World->Prop} {Q:Exit->Act->World->Prop} (b:next (a.put o.dst X) w'):o.wp P a w next Q:=by
 unfold Oper.wp;rw [h];exact b
theorem Ja {a cap b:Nat} (d:a<=gk) (h:cap<a) (f:b<=1048576):Builtin.nextslicecap a cap*b<=281474976710656:=by
 have d:a<=67108864:=d;have key:Builtin.nextslicecap a cap<=2*a+768:=by
  have g:∀(m c:Nat),c<=2*a+768->Builtin.growBy a m c<=2*a+768:=by
   intro m
   induction m with
   | zero=>intro c hc;exact hc
   | succ m ih=>
    intro c hc;unfold Builtin.growBy;split
    ·exact hc
    ·exact ih _ (by omega)
  unfold Builtin.nextslicecap;split
  ·omega
  ·split
   ·omega
   ·exact g 4 cap (by omega)
 have e:=vj (show Builtin.nextslicecap a cap<=134218496 by omega) f;exact pX e (by decide)
theorem DL {ι:Inj} {tr:List Lf} {l m:List (den tr)} {e:TypeId} {zc:Array Value} {cap r:Nat} (f:zc.size=tr.length) (a:l.length+m.length<=cap):
  BR ι (Rf.of r (l.length+m.length) cap) (.rows tr (l++m)) (.cells ((l.flatMap (vals tr)++m.flatMap (vals tr)).toArray++Builtin.zeroCells zc (cap - (l.length+m.length))) e):=by
 have d:=lY (t:=tr) l;have c:=lY (t:=tr) m;have b:(Builtin.zeroCells zc (cap - (l.length+m.length))).size=(cap - (l.length+m.length))*tr.length:=by simp [Builtin.zeroCells,f]
 refine ⟨_,e,(0,0),rfl,by simp,a,?_,?_,.inr (ql _)⟩
 ·simp only [Array.size_append,b,vE,bv,d,c];rw [<-fM,<-fM,cb];exact l7 _ (by omega)
 ·rw [uB,bv,fM,HQ];have:l.length*tr.length+m.length*tr.length=(l.flatMap (vals tr)++m.flatMap (vals tr)).length:=by rw [bv,d,c]
  rw [this];exact Bh
theorem wI {tr:List Lf} {e:TypeId} (h:MN P tr e=true):∃i z,P.info? e=some i/\i.zero=some z/\z.cells.size=tr.length/\tr.length=i.size/\0<tr.length/\i.bytes<=1048576:=by
 unfold MN at h;split at h
 ·rename_i i hi;split at h
  ·rename_i z d;simp only [az,gP] at h;obtain ⟨f,g,a,b⟩:=h;have c:i.size=P.cellsOf e:=by unfold Program.cellsOf;rw [hi];rfl
   have a:0<P.cellsOf e:=aD a;exact ⟨i,z,hi,d,by omega,by omega,by omega,aD b⟩
  ·cases h
 ·cases h
theorem FK {α:Type} {n fr:Nat} {ι0 ι:Inj} {w0:Base} {s:St} {o:Oper} {a:Act} {w:World} {args:Array Operand} {tys:Array TypeId} (ho:o.op=.call ⟨.builtin .append,args,tys⟩) (d:Inv n ι0 w0 ι s a w)
  (hfr:ι fr=none) (hge:s.nb<=fr) {k:St->Option α} {z:α} (h:CJ P n fr o.dst args.toList tys.toList s k=some z)
  {next:Act->World->Prop} {Q:Exit->Act->World->Prop} (hn:∀s' ι' a' w',k s'=some z->Inv n ι0 w0 ι' s' a' w'->next a' w'):o.wp P a w next Q:=by
 unfold CJ at h;split at h
 case h_2=>cases h
 rename_i x y t t2 hd hx ht;split at h
 case h_2=>cases h
 rename_i e O;obtain ⟨u,hu,S⟩:=ak h;obtain ⟨v,hv,g⟩:=ak S;clear h S;have G:=aZ d.tmps hu;have hY:=aZ d.tmps hv;have hfr0:∀q,ι0 fr=some q->s.rb<=fr:=by
  intro q F;rcases d.ext fr q F with h | h
  ·rw [hfr] at h;cases h
  ·exact h
 split at g
 ·
  simp only [VR] at G;split at g
  case h_2=>cases g
  rename_i tr _;split at g
  case h_2=>cases g
  rename_i I;obtain ⟨i,zv,hi,hz,k1,k2,k3,k4⟩:=wI I;obtain ⟨m,hm,g⟩:=ak g;obtain ⟨C,g⟩:=dh g;have C:=aD C;have hle':m.length<=67108864:=C;have A:=Hg d.mem hY hm k2;have hTm:=d.tmps.mono (nq (r:=none) hfr);have B:∀{ρ:Option Rf} b y,b≠fr->look s.H b=some y->y≠.dead->∃M,look s.H b=some M/\M≠.dead/\(∀q o,BR ι q M o->BR (upd ι fr ρ) q y o)/\∀t,M=.rows t []->y=.rows t []:=
   λb y _ V hdd=>⟨y,V,hdd,λq o hb=>BR.mono (nq hfr) hb,λ_ h=>h⟩
  by_cases h0:m.length=0
  ·have hm0:m=[]:=rl h0;subst hm0;have f:=mA (P:=P) (X:=.slice none 0 0) (w':=w) ho hx ht λZ=>by
    rw [G];have:=run_append_nothing (P:=P) w t t2 Z e i O hi none 0 0 (aM _) (a.eval y) (by simpa using A);simpa using this
   refine qY f (hn _ (upd ι fr none) _ _ g (Inv.rebind d hTm B rfl rfl rfl (Be _ _) (by omega) hd (λ_ _ _ _=>rfl) (.inr ⟨cO _ _ _,tr,rfl⟩) (λq F=>by cases F) (aM _) d.fr hfr0 ?_));unfold VR;exact .inr ⟨cO _ _ _,_,rfl⟩
  ·have N:m.length<=grownCap w m.length 0 e:=by simp only [grownCap,Question.cut];omega
   have f:=mA (P:=P) (X:=.slice (some ⟨w.heap.size,0,none⟩) m.length (grownCap w m.length 0 e))
     (w':=w.drew.alloc (.cells ((m.flatMap (vals tr)).toArray++Builtin.zeroCells zv.cells (grownCap w m.length 0 e - m.length)) e)) ho hx ht λZ=>by
    rw [G];have:=run_append_grow_src (P:=P) w t t2 Z e i zv O hi hz none 0 0 [] (run_firstCells_none _ _ _ _ _) (a.eval y) m.length _ A (by omega) (by omega) (Ja (by simpa using C) (by omega) k4);simpa using this
   refine qY f (hn _ (upd ι fr (some (Rf.of w.heap.size (m.length) (grownCap w m.length 0 e)))) _ _ g (Inv.rebind d (d.tmps.mono (nq hfr)) B rfl rfl rfl (Be _ _) (by omega) hd (λb q hb F=>?_)
    (.inl ⟨_,_,cO _ _ _,iq _ _,?_⟩) (λq F=>?_) (by show w.heap.size<=(w.heap.push _).size;simp) (by exact (d.fr.draws (w.drawn+1)).alloc _) hfr0 ?_))
   ·exact iz _ _ (yR (d.mem.dom b q F))
   ·have:=DL (ι:=upd ι fr (some (Rf.of w.heap.size (m.length) (grownCap w m.length 0 e)))) (tr:=tr) (l:=[]) (m:=m) (e:=e) (zc:=zv.cells) (cap:=grownCap w m.length 0 e) (r:=w.heap.size) k1 (by simpa using N);simpa using this
   ·simp only [ah] at F;subst F;refine ⟨by show w.heap.size<(w.heap.push _).size;simp,λb q' _ hq'=>yR (d.mem.dom b q' hq'),.inr d.fr.size,rfl⟩
   ·simp only [VR];exact .inl ⟨_,cO _ _ _,rfl⟩
 ·rename_i c;simp only [VR] at G;split at g
  case h_2=>cases g
  rename_i tr l hb;split at g
  case h_2=>cases g
  rename_i I;simp only [az] at I;obtain ⟨I,K,D⟩:=I;have K:=aD K;have D:=aD D;obtain ⟨i,zv,hi,hz,k1,k2,k3,k4⟩:=wI I;obtain ⟨m,hm,g⟩:=ak g;obtain ⟨C,g⟩:=dh g;have C:=aD C;have hle':l.length+m.length<=67108864:=C;have A:=Hg d.mem hY hm k2;have hTk:∀{ρ:Option Rf},TR (upd ι c ρ) (s.kill [c]).T a.tmps:=by
   intro ρ;rw [St.kill_eq];exact d.tmps.kill ww
  have B:∀{ρ:Option Rf} b y,b≠c->look (s.kill [c]).H b=some y->y≠.dead->∃M,look s.H b=some M/\M≠.dead/\(∀q o,BR ι q M o->BR (upd ι c ρ) q y o)/\∀t,M=.rows t []->y=.rows t []:=by
   intro ρ b y Y V hdd;rw [St.kill_eq] at V;simp only [ru] at V;cases hy:look s.H b with
   | none=>rw [hy] at V;cases V
   | some M=>
    rw [hy] at V;simp only [dC,ah] at V;subst V;exact ⟨M,rfl,by rintro rfl;exact hdd rfl,λq o hbr=>BR.kill ww hbr,by rintro t rfl;rfl⟩
  have hlo:(s.kill [c]).lo=s.lo:=by rw [St.kill_eq]
  have hro:(s.kill [c]).ro=s.ro:=by rw [St.kill_eq]
  have hrb:(s.kill [c]).rb=s.rb:=by rw [St.kill_eq]
  have hcn:c<s.nb:=by
   rcases d.mem.blk c _ hb (by simp) with ⟨q,_,h1,_⟩ | ⟨h1,_⟩
   ·exact d.mem.low c _ h1
   ·exact d.mem.low c _ h1
  have grow:∀{base:Option Addr} {cp:Nat},a.eval x=.slice base l.length cp->(Builtin.firstCells i.size l.length (.slice base l.length cp)).run P w.drew=.ok (l.flatMap (vals tr)).toArray w.drew->cp<l.length+m.length->o.wp P a w next Q:=by
   intro base cp G hold hlt;have N:l.length+m.length<=grownCap w (l.length+m.length) cp e:=by simp only [grownCap,Question.cut];omega
   have f:=mA (P:=P) (X:=.slice (some ⟨w.heap.size,0,none⟩) (l.length+m.length) (grownCap w (l.length+m.length) cp e))
     (w':=w.drew.alloc (.cells ((l.flatMap (vals tr)++m.flatMap (vals tr)).toArray++Builtin.zeroCells zv.cells (grownCap w (l.length+m.length) cp e - (l.length+m.length))) e)) ho hx ht λZ=>by
    rw [G];exact run_append_grow_src (P:=P) w t t2 Z e i zv O hi hz base l.length cp _ hold (a.eval y) m.length _ A hlt (by omega) (Ja C hlt k4)
   refine qY f (hn _ (upd ι c (some (Rf.of w.heap.size (l.length+m.length) (grownCap w (l.length+m.length) cp e)))) _ _ g (Inv.rebind d hTk B hlo hro hrb (aM _) hcn hd (λb q hb F=>?_)
    (.inl ⟨_,_,cO _ _ _,iq _ _,DL k1 N⟩) (λq F=>?_) (by show w.heap.size<=(w.heap.push _).size;simp) (by exact (d.fr.draws (w.drawn+1)).alloc _) (λ_ _=>D) ?_))
   ·exact iz _ _ (yR (d.mem.dom b q F))
   ·simp only [ah] at F;subst F;refine ⟨by show w.heap.size<(w.heap.push _).size;simp,λb q' _ hq'=>yR (d.mem.dom b q' hq'),.inr d.fr.size,rfl⟩
   ·simp only [VR];exact .inl ⟨_,cO _ _ _,rfl⟩
  rcases ib d.mem hb with ⟨q,U,e',fz,S,g2,g4,g5,g6,g7,g8⟩ | ⟨S,rfl⟩
  ·rcases G with ⟨q',J,G⟩ | ⟨J,_⟩
   ·rw [J] at S;cases S;have W:q.fz=false:=by
     cases hc:q.fz with
     | false=>rfl
     | true=>have:=d.fz c q J hc;omega
    have g8:=g8.resolve_left (by rw [W];simp);by_cases E:q.n+m.length<=q.k
    ·have hmz:=lY (t:=tr) m;have hbound:q.o+q.n*tr.length+m.length*tr.length<=U.size:=by
      have h1:=l7 tr.length E;rw [fM] at h1;omega
     have R:∀j,j<(m.flatMap (vals tr)).length->w.cell? ⟨q.r,q.o+q.n*i.size+j,none⟩=U[q.o+q.n*tr.length+j]?:=by
      intro j hj;rw [aV g2,<-k2]
     have hfz:∀j,j<(m.flatMap (vals tr)).length->w.frozen? ⟨q.r,q.o+q.n*i.size+j,none⟩=false:=by
      intro j hj;exact oM g2 g8 (by rw [<-k2];omega)
     have hst:=ju (P:=P) q.r (q.o+q.n*i.size) e' fz (m.flatMap (vals tr)) 0 U w g2 g8 (by rw [hmz,<-k2];omega) sY;have L:=run_storeCells_cells (P:=P) q.r (q.o+q.n*i.size) (m.flatMap (vals tr)) 0 w (by
      intro j hj;rw [cP,R j hj];simp;omega) (by intro j hj;rw [cP];exact hfz j hj) sY
     have hw:w.setCells q.r (q.o+q.n*i.size) (m.flatMap (vals tr))=setObj w q.r (.cells (splA U (q.o+q.n*tr.length) (m.flatMap (vals tr))) e' fz):=by
      rw [hst] at L;simp only [cP,vv,jD,<-k2] at L;rw [<-k2];exact L.symm
     have f:=mA (P:=P) (X:=.slice (some ⟨q.r,q.o,none⟩) (q.n+m.length) q.k) (w':=setObj w q.r (.cells (splA U (q.o+q.n*tr.length) (m.flatMap (vals tr))) e' fz)) ho hx ht λZ=>by
      rw [G,<-hw];exact run_append_room_src (P:=P) w t t2 Z e i O hi q.r q.o q.n q.k (a.eval y) m.length _ A E (λj hj=>by rw [R j hj];simp;omega) hfz
     have hssz:(splA U (q.o+q.n*tr.length) (m.flatMap (vals tr))).size=U.size:=ue (by rw [hmz];exact hbound)
     refine qY f (hn _ (upd ι c (some ⟨q.r,q.n+m.length,q.k,q.o,q.fz⟩)) _ _ g (Inv.rebind d hTk B hlo hro hrb (aM _) hcn hd (λb p Y hp=>pN _ λer=>Y ((d.mem.inj c b q p J hp er).resolve_right λhh=>by rw [W] at hh;cases hh.1).symm)
      (.inl ⟨_,_,cO _ _ _,ud g2,⟨_,e',fz,rfl,by simp [g4],E,by rw [hssz];exact g6,?_,.inr (by rw [hssz];exact g8)⟩⟩) (λp hp=>?_) (by simp [setObj]) ?_ (λ_ _=>D) ?_))
     ·show ((splA U (q.o+q.n*tr.length) (m.flatMap (vals tr))).toList.drop q.o).take _=_;rw [y9 (by omega),bv,g4,HQ,<-g7,g4];have hdl:(U.toList.drop q.o).length=U.size - q.o:=by simp
      rw [fM,<-eJ,rz (by rw [bv,eT,hdl,hmz];omega)];rw [iP (by rw [bv,eT,hdl,hmz];omega)]
     ·simp only [ah] at hp;subst hp;refine ⟨by have:=d.mem.dom c q J;simpa [setObj] using this,λb p' Y hp' er=>Y ((d.mem.inj b c p' q hp' J er).resolve_right λhh=>by rw [W] at hh;cases hh.2),d.new c q J,W⟩
     ·exact d.fr.write ((d.new c q J).imp (λ⟨q0,h,hr⟩=>⟨c,q0,zE h K,hr⟩) id) _
     ·simp only [VR];exact .inl ⟨_,cO _ _ _,rfl⟩
    ·refine grow (base:=some ⟨q.r,q.o,none⟩) (cp:=q.k) (by rw [G,g4]) ?_ (by omega);have hfl:=lY (t:=tr) l;exact run_firstCells_some w.drew i.size l.length ⟨q.r,q.o,none⟩ l.length q.k _ (by rw [hfl,k2]) (xp (off:=0) (w:=w.drew) g2 (m:=l.length*tr.length) (by rw [g7,cH,me]))
   ·rw [J] at S;cases S
  ·rcases G with ⟨q',J,G⟩ | ⟨J,ao,G⟩
   ·rw [J] at S;cases S
   ·by_cases h0:m.length=0
    ·have hm0:m=[]:=rl h0;subst hm0;have f:=mA (P:=P) (X:=.slice ao 0 0) (w':=w) ho hx ht λZ=>by
      rw [G];have:=run_append_nothing (P:=P) w t t2 Z e i O hi ao 0 0 (aM _) (a.eval y) (by simpa using A);simpa using this
     refine qY f (hn _ (upd ι c none) _ _ g (Inv.rebind d hTk B hlo hro hrb (aM _) hcn hd (λ_ _ _ _=>rfl) (.inr ⟨cO _ _ _,tr,rfl⟩) (λq F=>by cases F) (aM _) d.fr (λ_ _=>D) ?_));unfold VR;exact .inr ⟨cO _ _ _,_,rfl⟩
    ·exact grow (base:=ao) (cp:=0) (by rw [G];rfl) (Ge _ _ _) (by simp;omega)
 ·cases g
theorem xk {α:Type} {E:List Ent} (G:∀x∈E,dT P x) {n fr:Nat} {ι0 ι:Inj} {w0:Base} {s:St} {o:Oper} {a:Act} {w:World} (B:Inv n ι0 w0 ι s a w)
  (p:∀b,fr<=b->ι b=none) (C:s.nb<=fr) {k:St->Option α} {I:V->St->Option α} {z:α} (h:IR P E n fr o s k I=some z)
  {next:Act->World->Prop} {Q:Exit->Act->World->Prop}
  (A:∀s' c j w',k s'=some z->Inv n ι0 w0 c s' j w'->next j w')
  (hp:∀v s' c x j w',I v s'=some z->VR c v x->Inv n ι0 w0 c s' j w'->Q (.panic [{ v:=x,recovered:=false }]) j w'):
  o.wp P a w next Q:=by
 unfold IR at h;split at h
 ·rename_i J y;split at h
  ·rename_i g d;split at h
   ·rename_i f cap K L;obtain ⟨l,O,h⟩:=ak h;obtain ⟨r,u,R⟩:=tl G h;split at u
    ·cases u
    rename_i q;simp only [az] at q;obtain ⟨m,args,F⟩:=J;simp only at d;subst d;refine yk y B (λb N _=>p b N) K L O q.1 q.2 (R _ λ_ _=>rfl) (λe c j w' _ t=>?_) (λe c x w' M t=>?_)
    ·rw [e] at u;exact A _ c j w' u t
    ·rw [e] at u;exact hp _ _ c x a w' u M t
   ·cases h
  ·rename_i d;obtain ⟨m,args,F⟩:=J;simp only at d;subst d;exact FK y B (p fr (aM _)) C h A
  ·exact EU G B (λb D _=>p b D) h (λs' _ _ _ c j w' H _ i=>A s' c j w' H i) hp
 ·exact EU G B (λb D _=>p b D) h (λs' _ _ _ c j w' H _ i=>A s' c j w' H i) hp
end Go.Abs
