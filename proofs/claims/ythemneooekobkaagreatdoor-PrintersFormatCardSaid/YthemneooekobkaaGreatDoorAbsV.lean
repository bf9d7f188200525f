
/- append, and calls that move rows.
   Conditions: none; generic over the program. -/
import Derived.Test.YthemneooekobkaaGreatDoorAbsN
import Derived.Deep.Upon
set_option linter.unusedSimpArgs false
set_option linter.unusedVariables false
namespace Go.Abs
variable {P:Program}
theorem Jj:∀{t:List Lf} {x:den t},∀u∈vals t x,u.oneCell'=true
 | [],_,u,h=>by simp [vals] at h
 | [a],x,u,h=>by
  simp only [vals,uf] at h;subst h;cases a<;>rfl
 | a::b::l,x,u,h=>by
  simp only [vals,cN] at h;rcases h with rfl | h
  ·cases a<;>rfl
  ·exact Jj (t:=b::l) u (by simpa using h)
theorem wQ {t:List Lf} {l:List (den t)}:∀u∈l.flatMap (vals t),u.oneCell'=true:=by
 intro u h;obtain ⟨x,_,hx⟩:=List.mem_flatMap.1 h;exact Jj u hx
theorem nK {t a:List Lf} {l:List (den t)} {m:List (den a)} (h:mD t a l=some m):∃e:t=a,m=e▸l:=by
 unfold mD at h;split at h
 ·rename_i e;simp only [av] at h;exact ⟨e,h.symm⟩
 ·cases h
theorem Ci {w:World} {r:Nat} {f:Array Value} {e:TypeId} {fr:Nat×Nat} (h:w.heap[r]?=some (.cells f e fr)) {off o:Nat} {news:List Value} {m:Nat} (g:(((f.toList.drop o).take m).drop off).take news.length=news):
  ∀j u,news[j]?=some u->w.cell? ((⟨r,o+off,none⟩:Addr).add j)=some u:=by
 intro j u b;have d:j<news.length:=by
  rcases aH j news.length with c | c
  ·exact c
  ·rw [ga c] at b;cases b
 rw [nV,bi h];have a:=cD (λq:List Value=>q[j]?) g;simp only [qf d,lV,b] at a;by_cases i:off+j<m
 ·rw [qf i,lV] at a;simpa [gO] using a
 ·rw [ga (by rw [cV];omega)] at a;cases a
theorem Src.empty {w:World} {size:Nat} {E O:TypeId} (F:P.underlying E=some (.slice O)) (C:Option Addr):Src P size E (.slice C 0 0) 0 [] w:=by
 cases C with
 | none=>exact Src.ofNil w F 0
 | some a=>exact Src.ofSlice w F a 0 0 [] (by simp) (λj u J=>by simp at J) (λu G=>by cases G)
theorem J4 (size:Nat) (b:Option Addr) (w:World):(Builtin.firstCells size 0 (.slice b 0 0)).run P w=.ok #[] w:=by
 cases b with
 | none=>exact run_firstCells_none _ _ _ _ _
 | some a=>exact run_firstCells_some w size 0 a 0 0 [] (by simp) (λj u c=>by simp at c)
theorem Lu {ι:Inj} {H:List (Nat×Blk)} {nb:Nat} {w:World} (B:WR ι H nb w) {b:V} {Y:Value} (f:VR ι b Y) {tr:List Lf} {A:TypeId} {m:List (den tr)} (h:srcK P H tr A b=some m)
  {size:Nat} (hs:tr.length=size):Src P size A Y m.length (m.flatMap (vals tr)) w:=by
 unfold srcK at h;split at h
 ·rename_i e g;split at h
  ·simp only [av] at h;subst h;simp only [VR] at f;subst f;exact Src.ofNil w g 0
  ·rename_i c;split at h
   case h_2=>cases h
   rename_i t l o;obtain ⟨rfl,rfl⟩:=nK h;simp only [VR] at f;rcases jQ B o with ⟨q,G,L,fr,a,p,z,D,C,s,_⟩ | ⟨a,rfl⟩
   ·rcases f with ⟨E,d,rfl⟩ | ⟨d,_⟩
    ·rw [d] at a;cases a;rw [<-z];refine Src.ofSlice w g _ _ _ _ (by rw [oY,hs]) (Ci (off:=0) p (m:=m.length*t.length) ?_) wQ;rw [s,cU,nq]
    ·rw [d] at a;cases a
   ·rcases f with ⟨q,d,_⟩ | ⟨d,y,rfl⟩
    ·rw [d] at a;cases a
    ·exact Src.empty g y
  ·rename_i N c j n _;split at h
   case h_2=>cases h
   rename_i t l o;split at h
   case h_2=>cases h
   rename_i r;have r:=bB r;obtain ⟨k,h⟩:=dZ h;have k:=aL k;obtain ⟨rfl,rfl⟩:=nK h;have x:((l.drop j).take n).length=n:=by rw [cV,bN];omega
   simp only [VR] at f;rw [x];rcases f with ⟨q,cp,off,d,M,K,rfl⟩ | ⟨d,⟨rfl,_⟩,y,rfl⟩
   ·rcases jQ B o with ⟨E,G,L,fr,a,p,z,D,C,s,_⟩ | ⟨a,rfl⟩
    ·rw [d] at a;cases a;refine Src.ofSlice w g _ _ _ _ (by rw [oY,x,hs]) ?_ wQ;by_cases v:0<n
     ·rw [K v,r];refine Ci p (m:=l.length*t.length) ?_;rw [s,<-yR,oY,x,<-yW]
     ·have v:n=0:=by omega
      subst v;intro j u J;simp at J
    ·rw [d] at a;cases a
   ·simp only [nj,List.flatMap_nil];exact Src.empty g y
  ·cases h
 ·rename_i g;split at h
  case h_2=>cases h
  rename_i l;obtain ⟨rfl,rfl⟩:=nK h;simp only [VR] at f;subst f;simp only [aC,bh] at hs;subst hs;have:=Src.ofString (P:=P) w g ⟨l.toArray⟩;have I:byteCells ⟨l.toArray⟩=(l.map λb=>((b.toNat:Nat):Int)).flatMap (vals [.i .u8]):=by
   rw [sR];simp [byteCells]
  have F:(ByteArray.mk l.toArray).size=(l.map λb=>((b.toNat:Nat):Int)).length:=by rw [vH];rfl
  rw [I,F] at this;exact this
 ·cases h
theorem Inv.rebind {n:Nat} {ι0 ι:Inj} {w0:Base} {w w':World} {s s1:St} {a:Act} {c Q:Nat} {ρ:Option Rf} {blk:Blk} {v:V} {x:Value} {dst:Option Nat} (J:Inv n ι0 w0 ι s a w)
  (hT:TR (upd ι c ρ) s1.T a.tmps) (hH:∀b y,b≠c->look s1.H b=some y->y≠.dead->∃Y,look s.H b=some Y/\Y≠.dead/\(∀q o,BR ι q Y o->BR (upd ι c ρ) q y o)/\∀t,Y=.rows t []->y=.rows t [])
  (hlo:s1.lo=s.lo) (X:s1.ro=s.ro) (hrb:s1.rb=s.rb) (hnb:s.nb<=Q) (hc:c<Q) (hd:vv n dst=true)
  (h1:∀b q,b≠c->ι b=some (some q)->w'.heap[q.r]?=w.heap[q.r]?) (h2:BW (upd ι c ρ) w' c blk) (h3:∀q,ρ=some q->q.r<w'.heap.size/\(∀b q',b≠c->ι b=some (some q')->q'.r≠q.r)/\
   ((∃q0,ι0 c=some (some q0)/\q0.r=q.r)\/w0.w.heap.size<=q.r)/\q.fz=false) (h4:w.heap.size<=w'.heap.size) (h5:Fr (roI ι0 s.ro) w0.w w') (h6:∀q,ι0 c=some q->s.rb<=c)
  (hv:VR (upd ι c ρ) v x):Inv n ι0 w0 (upd ι c ρ) (s1.app dst (some v) [(c,blk)] Q) (a.put dst x) w':=by
 have C:∀b,b≠c->upd ι c ρ b=ι b:=λb E=>by simp [upd,E]
 have F:upd ι c ρ c=some ρ:=by simp [upd]
 refine ⟨by rw [nG];exact J.size,by rw [jU];exact J.defers,hT.app J.size hd (λu hu=>by cases hu;exact hv),⟨λb Z q q' e1 U e3=>?_,λb q e=>?_,λb q e=>?_,λb y hl O=>?_⟩,λb q e=>?_,λb q e=>?_,?_,?_,λb q e hq=>?_,by simp only [St.app,X];exact J.gl⟩
 ·by_cases E:b=c
  ·by_cases G:Z=c
   ·exact .inl (by rw [E,G])
   ·subst E;rw [F] at e1;rw [C Z G] at U;simp only [av] at e1;exact absurd e3.symm ((h3 q e1).2.1 Z q' G U)
  ·rw [C b E] at e1;by_cases G:Z=c
   ·subst G;rw [F] at U;simp only [av] at U;exact absurd e3 ((h3 q' U).2.1 b q E e1)
   ·rw [C Z G] at U;exact J.mem.inj b Z q q' e1 U e3
 ·by_cases E:b=c
  ·rw [E];exact hc
  ·rw [C b E] at e;have:=J.mem.low b q e;exact pi this hnb
 ·by_cases E:b=c
  ·subst E;rw [F] at e;simp only [av] at e;exact (h3 q e).1
  ·rw [C b E] at e;exact pi (J.mem.dom b q e) h4
 ·simp only [St.app,eK,dS,aV] at hl;split at hl
  ·rename_i e;subst e;simp only [av] at hl;subst hl;exact h2
  ·rename_i W;obtain ⟨Y,g1,g2,g3,g4⟩:=hH b y (λe=>W e.symm) hl O;exact (J.mem.blk b Y g1 g2).map (C b (λe=>W e.symm)) (λq hq=>h1 b q (λe=>W e.symm) hq) g3 g4
 ·by_cases E:b=c
  ·subst E;exact .inr (by simp only [St.app,hrb];exact h6 q e)
  ·rw [C b E];simp only [St.app,hrb];exact J.ext b q e
 ·by_cases E:b=c
  ·subst E;rw [F] at e;simp only [av] at e;exact (h3 q e).2.2.1
  ·rw [C b E] at e;exact J.new b q e
 ·simp only [St.app,X];exact h5
 ·simp only [St.app,hlo];exact J.low
 ·simp only [St.app,X];by_cases E:b=c
  ·subst E;rw [F] at e;simp only [av] at e;have:=(h3 q e).2.2.2;rw [this] at hq;cases hq
  ·rw [C b E] at e;exact J.fz b q e hq
theorem Qs {b c:Nat} (h:isIn [c] b=false):b≠c:=by
 rintro rfl;simp [isIn] at h
theorem zO {ι:Inj} {c:Nat} {ρ:Option Rf}:∀b,isIn [c] b=false->∀q,ι b=some q->upd ι c ρ b=some q:=by
 intro b a q d;have:=Qs a;simp [upd,this,d]
theorem pE {o:Oper} {a:Act} {w:World} {args:Array Operand} {b:Array TypeId} {x y:Operand} {t c:TypeId} {X:Value} {w':World} (i:o.op=.call ⟨.builtin .append,args,b⟩) (hx:args.toList=[x,y]) (g:b.toList=[t,c])
  (h:∀e,(Builtin.append_ #[t,c] e #[a.eval x,a.eval y]).run P w=.ok X w'):(execOp a.eval o).run P w=.ok (.value X) w':=by
 have f:args.map a.eval=#[a.eval x,a.eval y]:=by apply lP;simp [hx]
 have d:b=#[t,c]:=by apply lP;simp [g]
 simp only [execOp,i,resolve,f,d,ay,aF,aA,invoke,builtin,h]
theorem vf {o:Oper} {a:Act} {w w':World} {X:Value} (h:(execOp a.eval o).run P w=.ok (.value X) w') {next:Act->World->Prop} {Q:Exit->Act->World->Prop} (b:next (a.put o.dst X) w'):o.wp P a w next Q:=by
 unfold Oper.wp;rw [h];exact b
theorem Lp {a cap b:Nat} (d:a<=eW) (h:cap<a) (g:b<=1048576):Builtin.nextslicecap a cap*b<=281474976710656:=by
 have d:a<=67108864:=d;have key:Builtin.nextslicecap a cap<=2*a+768:=by
  have f:∀(m c:Nat),c<=2*a+768->Builtin.growBy a m c<=2*a+768:=by
   intro m
   induction m with
   | zero=>intro c hc;exact hc
   | succ m ih=>
    intro c hc;unfold Builtin.growBy;split
    ·exact hc
    ·exact ih _ (by omega)
  unfold Builtin.nextslicecap;split
  ·omega
  ·split
   ·omega
   ·exact f 4 cap (by omega)
 have e:=zy (show Builtin.nextslicecap a cap<=134218496 by omega) g;exact rQ e (by decide)
theorem Jt {ι:Inj} {tr:List Lf} {l m:List (den tr)} {e:TypeId} {zc:Array Value} {cap r:Nat} (f:zc.size=tr.length) (a:l.length+m.length<=cap):
  BR ι (Rf.of r (l.length+m.length) cap) (.rows tr (l++m)) (.cells ((l.flatMap (vals tr)++m.flatMap (vals tr)).toArray++Builtin.zeroCells zc (cap - (l.length+m.length))) e):=by
 have d:=oY (t:=tr) l;have c:=oY (t:=tr) m;have b:(Builtin.zeroCells zc (cap - (l.length+m.length))).size=(cap - (l.length+m.length))*tr.length:=by simp [Builtin.zeroCells,f]
 refine ⟨_,e,(0,0),rfl,by simp,a,?_,?_,.inr (tX _)⟩
 ·simp only [Array.size_append,b,y4,aO,d,c];rw [<-iq,<-iq,dc];exact o8 _ (by omega)
 ·rw [xc,aO,iq,Ik];have:l.length*tr.length+m.length*tr.length=(l.flatMap (vals tr)++m.flatMap (vals tr)).length:=by rw [aO,d,c]
  rw [this];exact BB
theorem AB {tr:List Lf} {e:TypeId} (h:Ro P tr e=true):∃i z,P.info? e=some i/\i.zero=some z/\z.cells.size=tr.length/\tr.length=i.size/\0<tr.length/\i.bytes<=1048576:=by
 unfold Ro at h;split at h
 ·rename_i i hi;split at h
  ·rename_i z d;simp only [az,jG] at h;obtain ⟨f,g,a,b⟩:=h;have c:i.size=P.cellsOf e:=by unfold Program.cellsOf;rw [hi];rfl
   have a:0<P.cellsOf e:=aL a;exact ⟨i,z,hi,d,by omega,by omega,by omega,aL b⟩
  ·cases h
 ·cases h
theorem KD {α:Type} {n fr:Nat} {ι0 ι:Inj} {w0:Base} {s:St} {o:Oper} {a:Act} {w:World} {args:Array Operand} {tys:Array TypeId} (ho:o.op=.call ⟨.builtin .append,args,tys⟩) (d:Inv n ι0 w0 ι s a w)
  (hfr:ι fr=none) (hge:s.nb<=fr) {k:St->Option α} {z:α} (h:fS9 P n fr o.dst args.toList tys.toList s k=some z)
  {next:Act->World->Prop} {Q:Exit->Act->World->Prop} (hn:∀s' ι' a' w',k s'=some z->Inv n ι0 w0 ι' s' a' w'->next a' w'):o.wp P a w next Q:=by
 unfold fS9 at h;split at h
 case h_2=>cases h
 rename_i x y t t2 hd hx ht;split at h
 case h_2=>cases h
 rename_i e M;obtain ⟨u,hu,U⟩:=ax h;obtain ⟨v,hv,g⟩:=ax U;clear h U;have G:=bu d.tmps hu;have hY:=bu d.tmps hv;have hfr0:∀q,ι0 fr=some q->s.rb<=fr:=by
  intro q F;rcases d.ext fr q F with h | h
  ·rw [hfr] at h;cases h
  ·exact h
 split at g
 ·
  simp only [VR] at G;split at g
  case h_2=>cases g
  rename_i tr _;split at g
  case h_2=>cases g
  rename_i I;obtain ⟨i,zv,hi,hz,k1,k2,k3,k4⟩:=AB I;obtain ⟨m,hm,g⟩:=ax g;obtain ⟨C,g⟩:=dZ g;have C:=aL C;have hle':m.length<=67108864:=C;have A:=Lu d.mem hY hm k2;have hTm:=d.tmps.mono (ql (r:=none) hfr);have B:∀{ρ:Option Rf} b y,b≠fr->look s.H b=some y->y≠.dead->∃N,look s.H b=some N/\N≠.dead/\(∀q o,BR ι q N o->BR (upd ι fr ρ) q y o)/\∀t,N=.rows t []->y=.rows t []:=
   λb y _ hl hdd=>⟨y,hl,hdd,λq o hb=>BR.mono (ql hfr) hb,λ_ h=>h⟩
  by_cases h0:m.length=0
  ·have hm0:m=[]:=tj h0;subst hm0;have f:=pE (P:=P) (X:=.slice none 0 0) (w':=w) ho hx ht λZ=>by
    rw [G];have:=run_append_nothing (P:=P) w t t2 Z e i M hi none 0 0 (aX _) (a.eval y) (by simpa using A);simpa using this
   refine vf f (hn _ (upd ι fr none) _ _ g (Inv.rebind d hTm B rfl rfl rfl (FI _ _) (by omega) hd (λ_ _ _ _=>rfl) (.inr ⟨dN _ _ _,tr,rfl⟩) (λq F=>by cases F) (aX _) d.fr hfr0 ?_));unfold VR;exact .inr ⟨dN _ _ _,_,rfl⟩
  ·have L:m.length<=grownCap w m.length 0 e:=by simp only [grownCap,Question.cut];omega
   have f:=pE (P:=P) (X:=.slice (some ⟨w.heap.size,0,none⟩) m.length (grownCap w m.length 0 e))
     (w':=w.drew.alloc (.cells ((m.flatMap (vals tr)).toArray++Builtin.zeroCells zv.cells (grownCap w m.length 0 e - m.length)) e)) ho hx ht λZ=>by
    rw [G];have:=run_append_grow_src (P:=P) w t t2 Z e i zv M hi hz none 0 0 [] (run_firstCells_none _ _ _ _ _) (a.eval y) m.length _ A (by omega) (by omega) (Lp (by simpa using C) (by omega) k4);simpa using this
   refine vf f (hn _ (upd ι fr (some (Rf.of w.heap.size (m.length) (grownCap w m.length 0 e)))) _ _ g (Inv.rebind d (d.tmps.mono (ql hfr)) B rfl rfl rfl (FI _ _) (by omega) hd (λb q hb F=>?_)
    (.inl ⟨_,_,dN _ _ _,ko _ _,?_⟩) (λq F=>?_) (by show w.heap.size<=(w.heap.push _).size;simp) (by exact (d.fr.draws (w.drawn+1)).alloc _) hfr0 ?_))
   ·exact ks _ _ (CV (d.mem.dom b q F))
   ·have:=Jt (ι:=upd ι fr (some (Rf.of w.heap.size (m.length) (grownCap w m.length 0 e)))) (tr:=tr) (l:=[]) (m:=m) (e:=e) (zc:=zv.cells) (cap:=grownCap w m.length 0 e) (r:=w.heap.size) k1 (by simpa using L);simpa using this
   ·simp only [av] at F;subst F;refine ⟨by show w.heap.size<(w.heap.push _).size;simp,λb q' _ hq'=>CV (d.mem.dom b q' hq'),.inr d.fr.size,rfl⟩
   ·simp only [VR];exact .inl ⟨_,dN _ _ _,rfl⟩
 ·rename_i c;simp only [VR] at G;split at g
  case h_2=>cases g
  rename_i tr l hb;split at g
  case h_2=>cases g
  rename_i I;simp only [az] at I;obtain ⟨I,R,D⟩:=I;have R:=aL R;have D:=aL D;obtain ⟨i,zv,hi,hz,k1,k2,k3,k4⟩:=AB I;obtain ⟨m,hm,g⟩:=ax g;obtain ⟨C,g⟩:=dZ g;have C:=aL C;have hle':l.length+m.length<=67108864:=C;have A:=Lu d.mem hY hm k2;have hTk:∀{ρ:Option Rf},TR (upd ι c ρ) (s.kill [c]).T a.tmps:=by
   intro ρ;rw [St.kill_eq];exact d.tmps.kill zO
  have B:∀{ρ:Option Rf} b y,b≠c->look (s.kill [c]).H b=some y->y≠.dead->∃N,look s.H b=some N/\N≠.dead/\(∀q o,BR ι q N o->BR (upd ι c ρ) q y o)/\∀t,N=.rows t []->y=.rows t []:=by
   intro ρ b y hbc hl hdd;rw [St.kill_eq] at hl;simp only [vw] at hl;cases hy:look s.H b with
   | none=>rw [hy] at hl;cases hl
   | some N=>
    rw [hy] at hl;simp only [fg,av] at hl;subst hl;exact ⟨N,rfl,by rintro rfl;exact hdd rfl,λq o hbr=>BR.kill zO hbr,by rintro t rfl;rfl⟩
  have hlo:(s.kill [c]).lo=s.lo:=by rw [St.kill_eq]
  have hro:(s.kill [c]).ro=s.ro:=by rw [St.kill_eq]
  have hrb:(s.kill [c]).rb=s.rb:=by rw [St.kill_eq]
  have hcn:c<s.nb:=by
   rcases d.mem.blk c _ hb (by simp) with ⟨q,_,h1,_⟩ | ⟨h1,_⟩
   ·exact d.mem.low c _ h1
   ·exact d.mem.low c _ h1
  have grow:∀{base:Option Addr} {cp:Nat},a.eval x=.slice base l.length cp->(Builtin.firstCells i.size l.length (.slice base l.length cp)).run P w.drew=.ok (l.flatMap (vals tr)).toArray w.drew->cp<l.length+m.length->o.wp P a w next Q:=by
   intro base cp G hold hlt;have L:l.length+m.length<=grownCap w (l.length+m.length) cp e:=by simp only [grownCap,Question.cut];omega
   have f:=pE (P:=P) (X:=.slice (some ⟨w.heap.size,0,none⟩) (l.length+m.length) (grownCap w (l.length+m.length) cp e))
     (w':=w.drew.alloc (.cells ((l.flatMap (vals tr)++m.flatMap (vals tr)).toArray++Builtin.zeroCells zv.cells (grownCap w (l.length+m.length) cp e - (l.length+m.length))) e)) ho hx ht λZ=>by
    rw [G];exact run_append_grow_src (P:=P) w t t2 Z e i zv M hi hz base l.length cp _ hold (a.eval y) m.length _ A hlt (by omega) (Lp C hlt k4)
   refine vf f (hn _ (upd ι c (some (Rf.of w.heap.size (l.length+m.length) (grownCap w (l.length+m.length) cp e)))) _ _ g (Inv.rebind d hTk B hlo hro hrb (aX _) hcn hd (λb q hb F=>?_)
    (.inl ⟨_,_,dN _ _ _,ko _ _,Jt k1 L⟩) (λq F=>?_) (by show w.heap.size<=(w.heap.push _).size;simp) (by exact (d.fr.draws (w.drawn+1)).alloc _) (λ_ _=>D) ?_))
   ·exact ks _ _ (CV (d.mem.dom b q F))
   ·simp only [av] at F;subst F;refine ⟨by show w.heap.size<(w.heap.push _).size;simp,λb q' _ hq'=>CV (d.mem.dom b q' hq'),.inr d.fr.size,rfl⟩
   ·simp only [VR];exact .inl ⟨_,dN _ _ _,rfl⟩
  rcases jQ d.mem hb with ⟨q,S,e',fz,U,g2,g4,g5,g6,g7,g8⟩ | ⟨U,rfl⟩
  ·rcases G with ⟨q',J,G⟩ | ⟨J,_⟩
   ·rw [J] at U;cases U;have W:q.fz=false:=by
     cases hc:q.fz with
     | false=>rfl
     | true=>have:=d.fz c q J hc;omega
    have g8:=g8.resolve_left (by rw [W];simp);by_cases E:q.n+m.length<=q.k
    ·have Y:=oY (t:=tr) m;have V:q.o+q.n*tr.length+m.length*tr.length<=S.size:=by
      have h1:=o8 tr.length E;rw [iq] at h1;omega
     have K:∀j,j<(m.flatMap (vals tr)).length->w.cell? ⟨q.r,q.o+q.n*i.size+j,none⟩=S[q.o+q.n*tr.length+j]?:=by
      intro j hj;rw [bi g2,<-k2]
     have hfz:∀j,j<(m.flatMap (vals tr)).length->w.frozen? ⟨q.r,q.o+q.n*i.size+j,none⟩=false:=by
      intro j hj;exact rS g2 g8 (by rw [<-k2];omega)
     have hst:=lz (P:=P) q.r (q.o+q.n*i.size) e' fz (m.flatMap (vals tr)) 0 S w g2 g8 (by rw [Y,<-k2];omega) wQ;have O:=run_storeCells_cells (P:=P) q.r (q.o+q.n*i.size) (m.flatMap (vals tr)) 0 w (by
      intro j hj;rw [cM,K j hj];simp;omega) (by intro j hj;rw [cM];exact hfz j hj) wQ
     have hw:w.setCells q.r (q.o+q.n*i.size) (m.flatMap (vals tr))=setObj w q.r (.cells (splA S (q.o+q.n*tr.length) (m.flatMap (vals tr))) e' fz):=by
      rw [hst] at O;simp only [cM,yw,kP,<-k2] at O;rw [<-k2];exact O.symm
     have f:=pE (P:=P) (X:=.slice (some ⟨q.r,q.o,none⟩) (q.n+m.length) q.k) (w':=setObj w q.r (.cells (splA S (q.o+q.n*tr.length) (m.flatMap (vals tr))) e' fz)) ho hx ht λZ=>by
      rw [G,<-hw];exact run_append_room_src (P:=P) w t t2 Z e i M hi q.r q.o q.n q.k (a.eval y) m.length _ A E (λj hj=>by rw [K j hj];simp;omega) hfz
     have hssz:(splA S (q.o+q.n*tr.length) (m.flatMap (vals tr))).size=S.size:=za (by rw [Y];exact V)
     refine vf f (hn _ (upd ι c (some ⟨q.r,q.n+m.length,q.k,q.o,q.fz⟩)) _ _ g (Inv.rebind d hTk B hlo hro hrb (aX _) hcn hd (λb p hbc hp=>tt _ λer=>hbc ((d.mem.inj c b q p J hp er).resolve_right λhh=>by rw [W] at hh;cases hh.1).symm)
      (.inl ⟨_,_,dN _ _ _,zk g2,⟨_,e',fz,rfl,by simp [g4],E,by rw [hssz];exact g6,?_,.inr (by rw [hssz];exact g8)⟩⟩) (λp hp=>?_) (by simp [setObj]) ?_ (λ_ _=>D) ?_))
     ·show ((splA S (q.o+q.n*tr.length) (m.flatMap (vals tr))).toList.drop q.o).take _=_;rw [DX (by omega),aO,g4,Ik,<-g7,g4];have hdl:(S.toList.drop q.o).length=S.size - q.o:=by simp
      rw [iq,<-fQ,vp (by rw [aO,cV,hdl,Y];omega)];rw [js (by rw [aO,cV,hdl,Y];omega)]
     ·simp only [av] at hp;subst hp;refine ⟨by have:=d.mem.dom c q J;simpa [setObj] using this,λb p' hbc hp' er=>hbc ((d.mem.inj b c p' q hp' J er).resolve_right λhh=>by rw [W] at hh;cases hh.2),d.new c q J,W⟩
     ·exact d.fr.write ((d.new c q J).imp (λ⟨q0,h,hr⟩=>⟨c,q0,DL h R,hr⟩) id) _
     ·simp only [VR];exact .inl ⟨_,dN _ _ _,rfl⟩
    ·refine grow (base:=some ⟨q.r,q.o,none⟩) (cp:=q.k) (by rw [G,g4]) ?_ (by omega);have hfl:=oY (t:=tr) l;exact run_firstCells_some w.drew i.size l.length ⟨q.r,q.o,none⟩ l.length q.k _ (by rw [hfl,k2]) (Ci (off:=0) (w:=w.drew) g2 (m:=l.length*tr.length) (by rw [g7,cU,nq]))
   ·rw [J] at U;cases U
  ·rcases G with ⟨q',J,G⟩ | ⟨J,ao,G⟩
   ·rw [J] at U;cases U
   ·by_cases h0:m.length=0
    ·have hm0:m=[]:=tj h0;subst hm0;have f:=pE (P:=P) (X:=.slice ao 0 0) (w':=w) ho hx ht λZ=>by
      rw [G];have:=run_append_nothing (P:=P) w t t2 Z e i M hi ao 0 0 (aX _) (a.eval y) (by simpa using A);simpa using this
     refine vf f (hn _ (upd ι c none) _ _ g (Inv.rebind d hTk B hlo hro hrb (aX _) hcn hd (λ_ _ _ _=>rfl) (.inr ⟨dN _ _ _,tr,rfl⟩) (λq F=>by cases F) (aX _) d.fr (λ_ _=>D) ?_));unfold VR;exact .inr ⟨dN _ _ _,_,rfl⟩
    ·exact grow (base:=ao) (cp:=0) (by rw [G];rfl) (J4 _ _ _) (by simp;omega)
 ·cases g
theorem By {α:Type} {E:List Ent} (H:∀x∈E,fM P x) {n fr:Nat} {ι0 ι:Inj} {w0:Base} {s:St} {o:Oper} {a:Act} {w:World} (A:Inv n ι0 w0 ι s a w)
  (p:∀b,fr<=b->ι b=none) (F:s.nb<=fr) {k:St->Option α} {I:V->St->Option α} {z:α} (h:KP P E n fr o s k I=some z)
  {next:Act->World->Prop} {Q:Exit->Act->World->Prop}
  (B:∀s' c e w',k s'=some z->Inv n ι0 w0 c s' e w'->next e w')
  (hp:∀v s' c x e w',I v s'=some z->VR c v x->Inv n ι0 w0 c s' e w'->Q (.panic [{ v:=x,recovered:=false }]) e w'):
  o.wp P a w next Q:=by
 unfold KP at h;split at h
 ·rename_i J y;split at h
  ·rename_i g d;split at h
   ·rename_i f cap K R;obtain ⟨l,N,h⟩:=ax h;obtain ⟨r,u,M⟩:=wW H h;split at u
    ·cases u
    rename_i t;simp only [az] at t;obtain ⟨m,args,G⟩:=J;simp only at d;subst d;refine C0 y A (λb O _=>p b O) K R N t.1 t.2 (M _ λ_ _=>rfl) (λj c e w' _ q=>?_) (λj c x w' L q=>?_)
    ·rw [j] at u;exact B _ c e w' u q
    ·rw [j] at u;exact hp _ _ c x a w' u L q
   ·cases h
  ·rename_i d;obtain ⟨m,args,G⟩:=J;simp only at d;subst d;exact KD y A (p fr (aX _)) F h B
  ·exact IX H A (λb D _=>p b D) h (λs' _ _ _ c e w' C _ i=>B s' c e w' C i) hp
 ·exact IX H A (λb D _=>p b D) h (λs' _ _ _ c e w' C _ i=>B s' c e w' C i) hp
end Go.Abs
