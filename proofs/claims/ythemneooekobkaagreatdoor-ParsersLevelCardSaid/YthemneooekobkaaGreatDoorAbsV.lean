
/- append, and calls that move rows.
   Conditions: none; generic over the program. -/
import Derived.Test.YthemneooekobkaaGreatDoorAbsN
import Derived.Deep.Upon
set_option linter.unusedSimpArgs false
set_option linter.unusedVariables false
namespace Go.Abs
variable {P:Program}
theorem E5:∀{t:List Lf} {x:den t},∀u∈vals t x,u.oneCell'=true
 | [],_,u,h=>by simp [vals] at h
 | [a],x,u,h=>by
  simp only [vals,uZ] at h;subst h;cases a<;>rfl
 | a::b::l,x,u,h=>by
  simp only [vals,cq] at h;rcases h with rfl | h
  ·cases a<;>rfl
  ·exact E5 (t:=b::l) u (by simpa using h)
theorem tK {t:List Lf} {l:List (den t)}:∀u∈l.flatMap (vals t),u.oneCell'=true:=by
 intro u h;obtain ⟨x,_,a⟩:=List.mem_flatMap.1 h;exact E5 u a
theorem nc {t a:List Lf} {l:List (den t)} {m:List (den a)} (h:lg t a l=some m):∃e:t=a,m=e▸l:=by
 unfold lg at h;split at h
 ·rename_i e;simp only [aq] at h;exact ⟨e,h.symm⟩
 ·cases h
theorem yK {w:World} {r:Nat} {f:Array Value} {e:TypeId} {fr:Nat×Nat} (h:w.heap[r]?=some (.cells f e fr)) {off o:Nat} {news:List Value} {m:Nat} (g:(((f.toList.drop o).take m).drop off).take news.length=news):
  ∀j u,news[j]?=some u->w.cell? ((⟨r,o+off,none⟩:Addr).add j)=some u:=by
 intro j u c;have d:j<news.length:=by
  rcases aF j news.length with b | b
  ·exact b
  ·rw [fU b] at c;cases c
 rw [kV,bz h];have a:=cK (λq:List Value=>q[j]?) g;simp only [oV d,lw,c] at a;by_cases i:off+j<m
 ·rw [oV i,lw] at a;simpa [gh] using a
 ·rw [fU (by rw [cN];omega)] at a;cases a
theorem Src.empty {w:World} {size:Nat} {F J:TypeId} (C:P.underlying F=some (.slice J)) (E:Option Addr):Src P size F (.slice E 0 0) 0 [] w:=by
 cases E with
 | none=>exact Src.ofNil w C 0
 | some a=>exact Src.ofSlice w C a 0 0 [] (by simp) (λj u G=>by simp at G) (λu K=>by cases K)
theorem Fv (size:Nat) (b:Option Addr) (w:World):(Builtin.firstCells size 0 (.slice b 0 0)).run P w=.ok #[] w:=by
 cases b with
 | none=>exact run_firstCells_none _ _ _ _ _
 | some a=>exact run_firstCells_some w size 0 a 0 0 [] (by simp) (λj u c=>by simp at c)
theorem GU {ι:Inj} {H:List (Nat×Blk)} {nb:Nat} {w:World} (B:WR ι H nb w) {b:V} {Y:Value} (f:VR ι b Y) {tr:List Lf} {C:TypeId} {m:List (den tr)} (h:srcK P H tr C b=some m)
  {size:Nat} (o:tr.length=size):Src P size C Y m.length (m.flatMap (vals tr)) w:=by
 unfold srcK at h;split at h
 ·rename_i e g;split at h
  ·simp only [aq] at h;subst h;simp only [VR] at f;subst f;exact Src.ofNil w g 0
  ·rename_i c;split at h
   case h_2=>cases h
   rename_i t l p;obtain ⟨rfl,rfl⟩:=nc h;simp only [VR] at f;rcases ip B p with ⟨q,D,L,fr,a,z,A,J,I,y,_⟩ | ⟨a,rfl⟩
   ·rcases f with ⟨G,d,rfl⟩ | ⟨d,_⟩
    ·rw [d] at a;cases a;rw [<-A];refine Src.ofSlice w g _ _ _ _ (by rw [lT,o]) (yK (off:=0) z (m:=m.length*t.length) ?_) tK;rw [y,cP,kN]
    ·rw [d] at a;cases a
   ·rcases f with ⟨q,d,_⟩ | ⟨d,r,rfl⟩
    ·rw [d] at a;cases a
    ·exact Src.empty g r
  ·rename_i N c j n _;split at h
   case h_2=>cases h
   rename_i t l p;split at h
   case h_2=>cases h
   rename_i s;have s:=bm s;obtain ⟨k,h⟩:=dX h;have k:=aH k;obtain ⟨rfl,rfl⟩:=nc h;have x:((l.drop j).take n).length=n:=by rw [cN,cZ];omega
   simp only [VR] at f;rw [x];rcases f with ⟨q,cp,off,d,O,M,rfl⟩ | ⟨d,⟨rfl,_⟩,r,rfl⟩
   ·rcases ip B p with ⟨G,D,L,fr,a,z,A,J,I,y,_⟩ | ⟨a,rfl⟩
    ·rw [d] at a;cases a;refine Src.ofSlice w g _ _ _ _ (by rw [lT,x,o]) ?_ tK;by_cases v:0<n
     ·rw [M v,s];refine yK z (m:=l.length*t.length) ?_;rw [y,<-vo,lT,x,<-vF]
     ·have v:n=0:=by omega
      subst v;intro j u E;simp at E
    ·rw [d] at a;cases a
   ·simp only [l8,List.flatMap_nil];exact Src.empty g r
  ·cases h
 ·rename_i g;split at h
  case h_2=>cases h
  rename_i l;obtain ⟨rfl,rfl⟩:=nc h;simp only [VR] at f;subst f;simp only [bf,dR] at o;subst o;have:=Src.ofString (P:=P) w g ⟨l.toArray⟩;have K:byteCells ⟨l.toArray⟩=(l.map λb=>((b.toNat:Nat):Int)).flatMap (vals [.i .u8]):=by
   rw [pJ];simp [byteCells]
  have F:(ByteArray.mk l.toArray).size=(l.map λb=>((b.toNat:Nat):Int)).length:=by rw [Bh];rfl
  rw [K,F] at this;exact this
 ·cases h
theorem Inv.rebind {n:Nat} {ι0 ι:Inj} {w0:Base} {w w':World} {s Y:St} {a:Act} {c Q:Nat} {ρ:Option Rf} {blk:Blk} {v:V} {x:Value} {dst:Option Nat} (J:Inv n ι0 w0 ι s a w)
  (hT:TR (upd ι c ρ) Y.T a.tmps) (hH:∀b y,b≠c->look Y.H b=some y->y≠.dead->∃y0,look s.H b=some y0/\y0≠.dead/\(∀q o,BR ι q y0 o->BR (upd ι c ρ) q y o)/\∀t,y0=.rows t []->y=.rows t [])
  (hlo:Y.lo=s.lo) (U:Y.ro=s.ro) (hrb:Y.rb=s.rb) (hnb:s.nb<=Q) (hc:c<Q) (hd:su n dst=true)
  (h1:∀b q,b≠c->ι b=some (some q)->w'.heap[q.r]?=w.heap[q.r]?) (h2:BW (upd ι c ρ) w' c blk) (h3:∀q,ρ=some q->q.r<w'.heap.size/\(∀b X,b≠c->ι b=some (some X)->X.r≠q.r)/\
   ((∃q0,ι0 c=some (some q0)/\q0.r=q.r)\/w0.w.heap.size<=q.r)/\q.fz=false) (h4:w.heap.size<=w'.heap.size) (h5:Fr (roI ι0 s.ro) w0.w w') (h6:∀q,ι0 c=some q->s.rb<=c)
  (hv:VR (upd ι c ρ) v x):Inv n ι0 w0 (upd ι c ρ) (Y.app dst (some v) [(c,blk)] Q) (a.put dst x) w':=by
 have C:∀b,b≠c->upd ι c ρ b=ι b:=λb E=>by simp [upd,E]
 have F:upd ι c ρ c=some ρ:=by simp [upd]
 refine ⟨by rw [kZ];exact J.size,by rw [iv];exact J.defers,hT.app J.size hd (λu hu=>by cases hu;exact hv),⟨λb Z q X e1 O e3=>?_,λb q e=>?_,λb q e=>?_,λb y hl W=>?_⟩,λb q e=>?_,λb q e=>?_,?_,?_,λb q e hq=>?_,by simp only [St.app,U];exact J.gl⟩
 ·by_cases E:b=c
  ·by_cases G:Z=c
   ·exact .inl (by rw [E,G])
   ·subst E;rw [F] at e1;rw [C Z G] at O;simp only [aq] at e1;exact absurd e3.symm ((h3 q e1).2.1 Z X G O)
  ·rw [C b E] at e1;by_cases G:Z=c
   ·subst G;rw [F] at O;simp only [aq] at O;exact absurd e3 ((h3 X O).2.1 b q E e1)
   ·rw [C Z G] at O;exact J.mem.inj b Z q X e1 O e3
 ·by_cases E:b=c
  ·rw [E];exact hc
  ·rw [C b E] at e;have:=J.mem.low b q e;exact l9 this hnb
 ·by_cases E:b=c
  ·subst E;rw [F] at e;simp only [aq] at e;exact (h3 q e).1
  ·rw [C b E] at e;exact l9 (J.mem.dom b q e) h4
 ·simp only [St.app,dY,ek,aP] at hl;split at hl
  ·rename_i e;subst e;simp only [aq] at hl;subst hl;exact h2
  ·rename_i K;obtain ⟨y0,g1,g2,g3,g4⟩:=hH b y (λe=>K e.symm) hl W;exact (J.mem.blk b y0 g1 g2).map (C b (λe=>K e.symm)) (λq hq=>h1 b q (λe=>K e.symm) hq) g3 g4
 ·by_cases E:b=c
  ·subst E;exact .inr (by simp only [St.app,hrb];exact h6 q e)
  ·rw [C b E];simp only [St.app,hrb];exact J.ext b q e
 ·by_cases E:b=c
  ·subst E;rw [F] at e;simp only [aq] at e;exact (h3 q e).2.2.1
  ·rw [C b E] at e;exact J.new b q e
 ·simp only [St.app,U];exact h5
 ·simp only [St.app,hlo];exact J.low
 ·simp only [St.app,U];by_cases E:b=c
  ·subst E;rw [F] at e;simp only [aq] at e;have:=(h3 q e).2.2.2;rw [this] at hq;cases hq
  ·rw [C b E] at e;exact J.fz b q e hq
theorem Lh {b c:Nat} (h:isIn [c] b=false):b≠c:=by
 rintro rfl;simp [isIn] at h
theorem ww {ι:Inj} {c:Nat} {ρ:Option Rf}:∀b,isIn [c] b=false->∀q,ι b=some q->upd ι c ρ b=some q:=by
 intro b d q a;have:=Lh d;simp [upd,this,a]
theorem mr {o:Oper} {a:Act} {w:World} {args:Array Operand} {b:Array TypeId} {x y:Operand} {t c:TypeId} {X:Value} {w':World} (g:o.op=.call ⟨.builtin .append,args,b⟩) (f:args.toList=[x,y]) (e:b.toList=[t,c])
  (h:∀j,(Builtin.append_ #[t,c] j #[a.eval x,a.eval y]).run P w=.ok X w'):(execOp a.eval o).run P w=.ok (.value X) w':=by
 have i:args.map a.eval=#[a.eval x,a.eval y]:=by apply kY;simp [f]
 have d:b=#[t,c]:=by apply kY;simp [e]
 simp only [execOp,g,resolve,i,d,ax,aC,az,invoke,builtin,h]
theorem qQ {o:Oper} {a:Act} {w w':World} {X:Value} (h:(execOp a.eval o).run P w=.ok (.value X) w') {next:Act->World->Prop} {Q:Exit->Act->World->Prop} (b:next (a.put o.dst X) w'):o.wp P a w next Q:=by
 unfold Oper.wp;rw [h];exact b
theorem H6 {a cap b:Nat} (d:a<=gU) (h:cap<a) (g:b<=1048576):Builtin.nextslicecap a cap*b<=281474976710656:=by
 have d:a<=67108864:=d;have key:Builtin.nextslicecap a cap<=2*a+768:=by
  have f:∀(m c:Nat),c<=2*a+768->Builtin.growBy a m c<=2*a+768:=by
   intro m
   induction m with
   | zero=>intro c hc;exact hc
   | succ m ih=>
    intro c hc;unfold Builtin.growBy;split
    ·exact hc
    ·exact ih _ (by omega)
  unfold Builtin.nextslicecap;split
  ·omega
  ·split
   ·omega
   ·exact f 4 cap (by omega)
 have e:=ue (show Builtin.nextslicecap a cap<=134218496 by omega) g;exact oQ e (by decide)
theorem ET {ι:Inj} {tr:List Lf} {l m:List (den tr)} {e:TypeId} {zc:Array Value} {cap r:Nat} (f:zc.size=tr.length) (a:l.length+m.length<=cap):
  BR ι (Rf.of r (l.length+m.length) cap) (.rows tr (l++m)) (.cells ((l.flatMap (vals tr)++m.flatMap (vals tr)).toArray++Builtin.zeroCells zc (cap - (l.length+m.length))) e):=by
 have d:=lT (t:=tr) l;have c:=lT (t:=tr) m;have b:(Builtin.zeroCells zc (cap - (l.length+m.length))).size=(cap - (l.length+m.length))*tr.length:=by simp [Builtin.zeroCells,f]
 refine ⟨_,e,(0,0),rfl,by simp,a,?_,?_,.inr (qx _)⟩
 ·simp only [Array.size_append,b,xF,bV,d,c];rw [<-fV,<-fV,cL];exact mc _ (by omega)
 ·rw [ut,bV,fV,JU];have:l.length*tr.length+m.length*tr.length=(l.flatMap (vals tr)++m.flatMap (vals tr)).length:=by rw [bV,d,c]
  rw [this];exact BX
theorem wk {tr:List Lf} {e:TypeId} (h:KP P tr e=true):∃i z,P.info? e=some i/\i.zero=some z/\z.cells.size=tr.length/\tr.length=i.size/\0<tr.length/\i.bytes<=1048576:=by
 unfold KP at h;split at h
 ·rename_i i hi;split at h
  ·rename_i z d;simp only [aA,ia] at h;obtain ⟨g,f,a,b⟩:=h;have c:i.size=P.cellsOf e:=by unfold Program.cellsOf;rw [hi];rfl
   have a:0<P.cellsOf e:=aH a;exact ⟨i,z,hi,d,by omega,by omega,by omega,aH b⟩
  ·cases h
 ·cases h
theorem Gt {α:Type} {n fr:Nat} {ι0 ι:Inj} {w0:Base} {s:St} {o:Oper} {a:Act} {w:World} {args:Array Operand} {tys:Array TypeId} (ho:o.op=.call ⟨.builtin .append,args,tys⟩) (d:Inv n ι0 w0 ι s a w)
  (hfr:ι fr=none) (hge:s.nb<=fr) {k:St->Option α} {z:α} (h:CS P n fr o.dst args.toList tys.toList s k=some z)
  {next:Act->World->Prop} {Q:Exit->Act->World->Prop} (hn:∀s' ι' a' w',k s'=some z->Inv n ι0 w0 ι' s' a' w'->next a' w'):o.wp P a w next Q:=by
 unfold CS at h;split at h
 case h_2=>cases h
 rename_i x y t t2 hd hx ht;split at h
 case h_2=>cases h
 rename_i e R;obtain ⟨u,hu,U⟩:=av h;obtain ⟨v,hv,g⟩:=av U;clear h U;have G:=bh d.tmps hu;have hY:=bh d.tmps hv;have hfr0:∀q,ι0 fr=some q->s.rb<=fr:=by
  intro q F;rcases d.ext fr q F with h | h
  ·rw [hfr] at h;cases h
  ·exact h
 split at g
 ·
  simp only [VR] at G;split at g
  case h_2=>cases g
  rename_i tr _;split at g
  case h_2=>cases g
  rename_i I;obtain ⟨i,zv,hi,hz,k1,k2,k3,k4⟩:=wk I;obtain ⟨m,hm,g⟩:=av g;obtain ⟨C,g⟩:=dX g;have C:=aH C;have hle':m.length<=67108864:=C;have A:=GU d.mem hY hm k2;have hTm:=d.tmps.mono (m8 (r:=none) hfr);have B:∀{ρ:Option Rf} b y,b≠fr->look s.H b=some y->y≠.dead->∃N,look s.H b=some N/\N≠.dead/\(∀q o,BR ι q N o->BR (upd ι fr ρ) q y o)/\∀t,N=.rows t []->y=.rows t []:=
   λb y _ hl hdd=>⟨y,hl,hdd,λq o hb=>BR.mono (m8 hfr) hb,λ_ h=>h⟩
  by_cases h0:m.length=0
  ·have hm0:m=[]:=uI h0;subst hm0;have f:=mr (P:=P) (X:=.slice none 0 0) (w':=w) ho hx ht λZ=>by
    rw [G];have:=run_append_nothing (P:=P) w t t2 Z e i R hi none 0 0 (aU _) (a.eval y) (by simpa using A);simpa using this
   refine qQ f (hn _ (upd ι fr none) _ _ g (Inv.rebind d hTm B rfl rfl rfl (CM _ _) (by omega) hd (λ_ _ _ _=>rfl) (.inr ⟨cX _ _ _,tr,rfl⟩) (λq F=>by cases F) (aU _) d.fr hfr0 ?_));unfold VR;exact .inr ⟨cX _ _ _,_,rfl⟩
  ·have K:m.length<=grownCap w m.length 0 e:=by simp only [grownCap,Question.cut];omega
   have f:=mr (P:=P) (X:=.slice (some ⟨w.heap.size,0,none⟩) m.length (grownCap w m.length 0 e))
     (w':=w.drew.alloc (.cells ((m.flatMap (vals tr)).toArray++Builtin.zeroCells zv.cells (grownCap w m.length 0 e - m.length)) e)) ho hx ht λZ=>by
    rw [G];have:=run_append_grow_src (P:=P) w t t2 Z e i zv R hi hz none 0 0 [] (run_firstCells_none _ _ _ _ _) (a.eval y) m.length _ A (by omega) (by omega) (H6 (by simpa using C) (by omega) k4);simpa using this
   refine qQ f (hn _ (upd ι fr (some (Rf.of w.heap.size (m.length) (grownCap w m.length 0 e)))) _ _ g (Inv.rebind d (d.tmps.mono (m8 hfr)) B rfl rfl rfl (CM _ _) (by omega) hd (λb q hb F=>?_)
    (.inl ⟨_,_,cX _ _ _,ku _ _,?_⟩) (λq F=>?_) (by show w.heap.size<=(w.heap.push _).size;simp) (by exact (d.fr.draws (w.drawn+1)).alloc _) hfr0 ?_))
   ·exact iP _ _ (y6 (d.mem.dom b q F))
   ·have:=ET (ι:=upd ι fr (some (Rf.of w.heap.size (m.length) (grownCap w m.length 0 e)))) (tr:=tr) (l:=[]) (m:=m) (e:=e) (zc:=zv.cells) (cap:=grownCap w m.length 0 e) (r:=w.heap.size) k1 (by simpa using K);simpa using this
   ·simp only [aq] at F;subst F;refine ⟨by show w.heap.size<(w.heap.push _).size;simp,λb q' _ hq'=>y6 (d.mem.dom b q' hq'),.inr d.fr.size,rfl⟩
   ·simp only [VR];exact .inl ⟨_,cX _ _ _,rfl⟩
 ·rename_i c;simp only [VR] at G;split at g
  case h_2=>cases g
  rename_i tr l hb;split at g
  case h_2=>cases g
  rename_i I;simp only [aA] at I;obtain ⟨I,O,D⟩:=I;have O:=aH O;have D:=aH D;obtain ⟨i,zv,hi,hz,k1,k2,k3,k4⟩:=wk I;obtain ⟨m,hm,g⟩:=av g;obtain ⟨C,g⟩:=dX g;have C:=aH C;have hle':l.length+m.length<=67108864:=C;have A:=GU d.mem hY hm k2;have hTk:∀{ρ:Option Rf},TR (upd ι c ρ) (s.kill [c]).T a.tmps:=by
   intro ρ;rw [St.kill_eq];exact d.tmps.kill ww
  have B:∀{ρ:Option Rf} b y,b≠c->look (s.kill [c]).H b=some y->y≠.dead->∃N,look s.H b=some N/\N≠.dead/\(∀q o,BR ι q N o->BR (upd ι c ρ) q y o)/\∀t,N=.rows t []->y=.rows t []:=by
   intro ρ b y V hl hdd;rw [St.kill_eq] at hl;simp only [rY] at hl;cases hy:look s.H b with
   | none=>rw [hy] at hl;cases hl
   | some N=>
    rw [hy] at hl;simp only [ew,aq] at hl;subst hl;exact ⟨N,rfl,by rintro rfl;exact hdd rfl,λq o hbr=>BR.kill ww hbr,by rintro t rfl;rfl⟩
  have hlo:(s.kill [c]).lo=s.lo:=by rw [St.kill_eq]
  have hro:(s.kill [c]).ro=s.ro:=by rw [St.kill_eq]
  have hrb:(s.kill [c]).rb=s.rb:=by rw [St.kill_eq]
  have hcn:c<s.nb:=by
   rcases d.mem.blk c _ hb (by simp) with ⟨q,_,h1,_⟩ | ⟨h1,_⟩
   ·exact d.mem.low c _ h1
   ·exact d.mem.low c _ h1
  have grow:∀{base:Option Addr} {cp:Nat},a.eval x=.slice base l.length cp->(Builtin.firstCells i.size l.length (.slice base l.length cp)).run P w.drew=.ok (l.flatMap (vals tr)).toArray w.drew->cp<l.length+m.length->o.wp P a w next Q:=by
   intro base cp G hold hlt;have K:l.length+m.length<=grownCap w (l.length+m.length) cp e:=by simp only [grownCap,Question.cut];omega
   have f:=mr (P:=P) (X:=.slice (some ⟨w.heap.size,0,none⟩) (l.length+m.length) (grownCap w (l.length+m.length) cp e))
     (w':=w.drew.alloc (.cells ((l.flatMap (vals tr)++m.flatMap (vals tr)).toArray++Builtin.zeroCells zv.cells (grownCap w (l.length+m.length) cp e - (l.length+m.length))) e)) ho hx ht λZ=>by
    rw [G];exact run_append_grow_src (P:=P) w t t2 Z e i zv R hi hz base l.length cp _ hold (a.eval y) m.length _ A hlt (by omega) (H6 C hlt k4)
   refine qQ f (hn _ (upd ι c (some (Rf.of w.heap.size (l.length+m.length) (grownCap w (l.length+m.length) cp e)))) _ _ g (Inv.rebind d hTk B hlo hro hrb (aU _) hcn hd (λb q hb F=>?_)
    (.inl ⟨_,_,cX _ _ _,ku _ _,ET k1 K⟩) (λq F=>?_) (by show w.heap.size<=(w.heap.push _).size;simp) (by exact (d.fr.draws (w.drawn+1)).alloc _) (λ_ _=>D) ?_))
   ·exact iP _ _ (y6 (d.mem.dom b q F))
   ·simp only [aq] at F;subst F;refine ⟨by show w.heap.size<(w.heap.push _).size;simp,λb q' _ hq'=>y6 (d.mem.dom b q' hq'),.inr d.fr.size,rfl⟩
   ·simp only [VR];exact .inl ⟨_,cX _ _ _,rfl⟩
  rcases ip d.mem hb with ⟨q,S,e',fz,U,g2,g4,g5,g6,g7,g8⟩ | ⟨U,rfl⟩
  ·rcases G with ⟨q',J,G⟩ | ⟨J,_⟩
   ·rw [J] at U;cases U;have hqz:q.fz=false:=by
     cases hc:q.fz with
     | false=>rfl
     | true=>have:=d.fz c q J hc;omega
    have g8:=g8.resolve_left (by rw [hqz];simp);by_cases E:q.n+m.length<=q.k
    ·have W:=lT (t:=tr) m;have Y:q.o+q.n*tr.length+m.length*tr.length<=S.size:=by
      have h1:=mc tr.length E;rw [fV] at h1;omega
     have M:∀j,j<(m.flatMap (vals tr)).length->w.cell? ⟨q.r,q.o+q.n*i.size+j,none⟩=S[q.o+q.n*tr.length+j]?:=by
      intro j hj;rw [bz g2,<-k2]
     have hfz:∀j,j<(m.flatMap (vals tr)).length->w.frozen? ⟨q.r,q.o+q.n*i.size+j,none⟩=false:=by
      intro j hj;exact oO g2 g8 (by rw [<-k2];omega)
     have hst:=jz (P:=P) q.r (q.o+q.n*i.size) e' fz (m.flatMap (vals tr)) 0 S w g2 g8 (by rw [W,<-k2];omega) tK;have L:=run_storeCells_cells (P:=P) q.r (q.o+q.n*i.size) (m.flatMap (vals tr)) 0 w (by
      intro j hj;rw [cf,M j hj];simp;omega) (by intro j hj;rw [cf];exact hfz j hj) tK
     have hw:w.setCells q.r (q.o+q.n*i.size) (m.flatMap (vals tr))=setObj w q.r (.cells (splA S (q.o+q.n*tr.length) (m.flatMap (vals tr))) e' fz):=by
      rw [hst] at L;simp only [cf,uU,ke,<-k2] at L;rw [<-k2];exact L.symm
     have f:=mr (P:=P) (X:=.slice (some ⟨q.r,q.o,none⟩) (q.n+m.length) q.k) (w':=setObj w q.r (.cells (splA S (q.o+q.n*tr.length) (m.flatMap (vals tr))) e' fz)) ho hx ht λZ=>by
      rw [G,<-hw];exact run_append_room_src (P:=P) w t t2 Z e i R hi q.r q.o q.n q.k (a.eval y) m.length _ A E (λj hj=>by rw [M j hj];simp;omega) hfz
     have hssz:(splA S (q.o+q.n*tr.length) (m.flatMap (vals tr))).size=S.size:=tX (by rw [W];exact Y)
     refine qQ f (hn _ (upd ι c (some ⟨q.r,q.n+m.length,q.k,q.o,q.fz⟩)) _ _ g (Inv.rebind d hTk B hlo hro hrb (aU _) hcn hd (λb p V hp=>pU _ λer=>V ((d.mem.inj c b q p J hp er).resolve_right λhh=>by rw [hqz] at hh;cases hh.1).symm)
      (.inl ⟨_,_,cX _ _ _,vp g2,⟨_,e',fz,rfl,by simp [g4],E,by rw [hssz];exact g6,?_,.inr (by rw [hssz];exact g8)⟩⟩) (λp hp=>?_) (by simp [setObj]) ?_ (λ_ _=>D) ?_))
     ·show ((splA S (q.o+q.n*tr.length) (m.flatMap (vals tr))).toList.drop q.o).take _=_;rw [zr (by omega),bV,g4,JU,<-g7,g4];have hdl:(S.toList.drop q.o).length=S.size - q.o:=by simp
      rw [fV,<-iN,rZ (by rw [bV,cN,hdl,W];omega)];rw [hZ (by rw [bV,cN,hdl,W];omega)]
     ·simp only [aq] at hp;subst hp;refine ⟨by have:=d.mem.dom c q J;simpa [setObj] using this,λb p' V hp' er=>V ((d.mem.inj b c p' q hp' J er).resolve_right λhh=>by rw [hqz] at hh;cases hh.2),d.new c q J,hqz⟩
     ·exact d.fr.write ((d.new c q J).imp (λ⟨q0,h,hr⟩=>⟨c,q0,zZ h O,hr⟩) id) _
     ·simp only [VR];exact .inl ⟨_,cX _ _ _,rfl⟩
    ·refine grow (base:=some ⟨q.r,q.o,none⟩) (cp:=q.k) (by rw [G,g4]) ?_ (by omega);have hfl:=lT (t:=tr) l;exact run_firstCells_some w.drew i.size l.length ⟨q.r,q.o,none⟩ l.length q.k _ (by rw [hfl,k2]) (yK (off:=0) (w:=w.drew) g2 (m:=l.length*tr.length) (by rw [g7,cP,kN]))
   ·rw [J] at U;cases U
  ·rcases G with ⟨q',J,G⟩ | ⟨J,ao,G⟩
   ·rw [J] at U;cases U
   ·by_cases h0:m.length=0
    ·have hm0:m=[]:=uI h0;subst hm0;have f:=mr (P:=P) (X:=.slice ao 0 0) (w':=w) ho hx ht λZ=>by
      rw [G];have:=run_append_nothing (P:=P) w t t2 Z e i R hi ao 0 0 (aU _) (a.eval y) (by simpa using A);simpa using this
     refine qQ f (hn _ (upd ι c none) _ _ g (Inv.rebind d hTk B hlo hro hrb (aU _) hcn hd (λ_ _ _ _=>rfl) (.inr ⟨cX _ _ _,tr,rfl⟩) (λq F=>by cases F) (aU _) d.fr (λ_ _=>D) ?_));unfold VR;exact .inr ⟨cX _ _ _,_,rfl⟩
    ·exact grow (base:=ao) (cp:=0) (by rw [G];rfl) (Fv _ _ _) (by simp;omega)
 ·cases g
theorem yg {α:Type} {E:List Ent} (G:∀x∈E,fO P x) {n fr:Nat} {ι0 ι:Inj} {w0:Base} {s:St} {o:Oper} {a:Act} {w:World} (B:Inv n ι0 w0 ι s a w)
  (m:∀b,fr<=b->ι b=none) (C:s.nb<=fr) {k:St->Option α} {J:V->St->Option α} {z:α} (h:Ip P E n fr o s k J=some z)
  {next:Act->World->Prop} {Q:Exit->Act->World->Prop}
  (A:∀s' c j w',k s'=some z->Inv n ι0 w0 c s' j w'->next j w')
  (I:∀v s' c x j w',J v s'=some z->VR c v x->Inv n ι0 w0 c s' j w'->Q (.panic [{ v:=x,recovered:=false }]) j w'):
  o.wp P a w next Q:=by
 unfold Ip at h;split at h
 ·rename_i K y;split at h
  ·rename_i g d;split at h
   ·rename_i f cap N S;obtain ⟨l,M,h⟩:=av h;obtain ⟨r,u,L⟩:=tt G h;split at u
    ·cases u
    rename_i q;simp only [aA] at q;obtain ⟨p,args,F⟩:=K;simp only at d;subst d;refine yu y B (λb O _=>m b O) N S M q.1 q.2 (L _ λ_ _=>rfl) (λe c j w' _ t=>?_) (λe c x w' R t=>?_)
    ·rw [e] at u;exact A _ c j w' u t
    ·rw [e] at u;exact I _ _ c x a w' u R t
   ·cases h
  ·rename_i d;obtain ⟨p,args,F⟩:=K;simp only at d;subst d;exact Gt y B (m fr (aU _)) C h A
  ·exact DX G B (λb D _=>m b D) h (λs' _ _ _ c j w' H _ i=>A s' c j w' H i) I
 ·exact DX G B (λb D _=>m b D) h (λs' _ _ _ c j w' H _ i=>A s' c j w' H i) I
end Go.Abs
