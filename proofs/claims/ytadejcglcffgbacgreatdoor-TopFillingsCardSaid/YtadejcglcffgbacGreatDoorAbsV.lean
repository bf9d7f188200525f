
import Derived.Test.YtadejcglcffgbacGreatDoorAbsN
import Derived.Deep.Upon
set_option linter.unusedSimpArgs false
set_option linter.unusedVariables false
set_option linter.defProp false
namespace Go.Abs
variable {P:Program}
def BE:∀{t:List Lf} {x:den t},∀u∈vals t x,u.oneCell'=true
 | [],_,u,h=>by simp[vals]at h
 | [a],x,u,h=>by
  simp only[vals,ou]at h;subst h;cases a<;>rfl
 | a::b::l,x,u,h=>by
  simp only[vals,bv]at h;rcases h with rfl | h
  ·cases a<;>rfl
  ·exact BE (t:=b::l) u (by simpa using h)
def rO{t:List Lf}{l:List (den t)}:∀u∈l.flatMap (vals t),u.oneCell'=true:=by
 intro u h;obtain⟨x,_,a⟩:=mY.1 h;exact BE u a
def jQ{t a:List Lf}{l:List (den t)}{m:List (den a)}(h:jc t a l=some m):∃e:t=a,m=e▸l:=by
 unfold jc at h;split at h
 ·rename_i e;simp only[af]at h;exact⟨e,h.symm⟩
 ·cases h
def vP{w:World}{r:Nat}{d:Array Value}{e:TypeId}{fr:Nat×Nat}(h:w.heap[r]?=some (.cells d e fr)){off o:Nat}{news:List Value}{m:Nat}(f:(((d.toList.drop o).take m).drop off).take news.length=news):
  ∀j u,news[j]?=some u->w.cell? ((⟨r,o+off,none⟩:Addr).add j)=some u:=by
 intro j u a;have c:j<news.length:=by
  rcases aA j news.length with b | b
  ·exact b
  ·rw[ec b]at a;cases a
 rw[jI,aN h];have h2:=eK (λq:List Value=>q[j]?) f;simp only[mM c,jx,a]at h2;by_cases hm:off+j<m
 ·rw[mM hm,jx]at h2;simpa[gL]using h2
 ·rw[ec (by rw[dj];omega)]at h2;cases h2
def Src.empty{w:World}{size:Nat}{A J:TypeId}(C:P.underlying A=some (.slice J))(E:Option Addr):Src P size A (.slice E 0 0) 0 [] w:=by
 cases E with
 | none=>exact Src.ofNil w C 0
 | some a=>exact Src.ofSlice w C a 0 0 [] (by simp) (λj u G=>by simp at G) (λu F=>by cases F)
def BN(size:Nat)(b:Option Addr)(w:World):(Builtin.firstCells size 0 (.slice b 0 0)).run P w=.ok #[] w:=by
 cases b with
 | none=>exact run_firstCells_none _ _ _ _ _
 | some a=>exact run_firstCells_some w size 0 a 0 0 [] (by simp) (λj u c=>by simp at c)
def ED{ι:Inj}{H:List (Nat×Blk)}{nb:Nat}{w:World}(B:WR ι H nb w){b:V}{Y:Value}(f:VR ι b Y){tr:List Lf}{C:TypeId}{m:List (den tr)}(h:srcK P H tr C b=some m)
  {size:Nat} (o:tr.length=size):Src P size C Y m.length (m.flatMap (vals tr)) w:=by
 unfold srcK at h;split at h
 ·rename_i e g;split at h
  ·simp only[af]at h;subst h;simp only[VR]at f;subst f;exact Src.ofNil w g 0
  ·rename_i c;split at h
   case h_2=>cases h
   rename_i t l p;obtain⟨rfl,rfl⟩:=jQ h;simp only[VR]at f;rcases f9 B p with⟨q,J,E,fr,a,r,A,G,I,x,_⟩ | ⟨a,rfl⟩
   ·rcases f with⟨F,d,rfl⟩ | ⟨d,_⟩
    ·rw[d]at a;cases a;rw[<-A];refine Src.ofSlice w g _ _ _ _ (by rw[kC,o]) (vP (off:=0) r (m:=m.length*t.length) ?_) rO;rw[x,iE,oz]
    ·rw[d]at a;cases a
   ·rcases f with⟨q,d,_⟩ | ⟨d,y,rfl⟩
    ·rw[d]at a;cases a
    ·exact Src.empty g y
  ·rename_i N c j n _;split at h
   case h_2=>cases h
   rename_i t l p;split at h
   case h_2=>cases h
   rename_i s;have s:=aS s;obtain⟨k,h⟩:=bR h;have k:=az k;obtain⟨rfl,rfl⟩:=jQ h;have z:((l.drop j).take n).length=n:=by rw[dj,k7];omega
   simp only[VR]at f;rw[z];rcases f with⟨q,cp,off,d,O,M,rfl⟩ | ⟨d,⟨rfl,_⟩,y,rfl⟩
   ·rcases f9 B p with⟨F,J,E,fr,a,r,A,G,I,x,_⟩ | ⟨a,rfl⟩
    ·rw[d]at a;cases a;refine Src.ofSlice w g _ _ _ _ (by rw[kC,z,o]) ?_ rO;by_cases v:0<n
     ·rw[M v,s];refine vP r (m:=l.length*t.length) ?_;rw[x,<-sO,kC,z,<-ub]
     ·have v:n=0:=by omega
      subst v;intro j u L;simp at L
    ·rw[d]at a;cases a
   ·simp only[kR,List.flatMap_nil];exact Src.empty g y
  ·cases h
 ·rename_i g;split at h
  case h_2=>cases h
  rename_i l;obtain⟨rfl,rfl⟩:=jQ h;simp only[VR]at f;subst f;simp only[bp,cP]at o;subst o;have:=Src.ofString (P:=P) w g ⟨l.toArray⟩;have K:byteCells ⟨l.toArray⟩=(l.map λb=>((b.toNat:Nat):Int)).flatMap (vals [.i .u8]):=by
   rw[m9];simp[byteCells]
  have D:(ByteArray.mk l.toArray).size=(l.map λb=>((b.toNat:Nat):Int)).length:=by rw[mw];rfl
  rw[K,D]at this;exact this
 ·cases h
def Inv.rebind {n:Nat} {ι0 ι:Inj} {w0:Base} {w w':World} {s X:St} {a:Act} {c O:Nat} {ρ:Option Rf} {blk:Blk} {v:V} {x:Value} {dst:Option Nat} (G:Inv n ι0 w0 ι s a w)
  (hT:TR (upd ι c ρ) X.T a.tmps) (hH:∀b y,b≠c->look X.H b=some y->y≠.dead->∃Y,look s.H b=some Y/\Y≠.dead/\(∀q o,BR ι q Y o->BR (upd ι c ρ) q y o)/\∀t,Y=.rows t []->y=.rows t [])
  (hlo:X.lo=s.lo) (K:X.ro=s.ro) (hrb:X.rb=s.rb) (hnb:s.nb<=O) (hc:c<O) (hd:qf n dst=true)
  (h1:∀b q,b≠c->ι b=some (some q)->w'.heap[q.r]?=w.heap[q.r]?) (h2:BW (upd ι c ρ) w' c blk) (h3:∀q,ρ=some q->q.r<w'.heap.size/\(∀b U,b≠c->ι b=some (some U)->U.r≠q.r)/\
   ((∃q0,ι0 c=some (some q0)/\q0.r=q.r)\/w0.w.heap.size<=q.r)/\q.fz=false) (h4:w.heap.size<=w'.heap.size) (h5:Fr (roI ι0 s.ro) w0.w w') (h6:∀q,ι0 c=some q->s.rb<=c)
  (hv:VR (upd ι c ρ) v x):Inv n ι0 w0 (upd ι c ρ) (X.app dst (some v) [(c,blk)] O) (a.put dst x) w':=by
 have A:∀b,b≠c->upd ι c ρ b=ι b:=λb C=>by simp [upd,C]
 have E:upd ι c ρ c=some ρ:=by simp [upd]
 refine ⟨by rw [jJ];exact G.size,by rw [fX];exact G.defers,hT.app G.size hd (λu hu=>by cases hu;exact hv),⟨λb Z q U W J e3=>?_,λb q e=>?_,λb q e=>?_,λb y hl M=>?_⟩,λb q e=>?_,λb q e=>?_,?_,?_,λb q e hq=>?_,by simp only [St.app,K];exact G.gl⟩
 ·by_cases C:b=c
  ·by_cases F:Z=c
   ·exact .inl (by rw [C,F])
   ·subst C;rw [E] at W;rw [A Z F] at J;simp only [af] at W;exact absurd e3.symm ((h3 q W).2.1 Z U F J)
  ·rw [A b C] at W;by_cases F:Z=c
   ·subst F;rw [E] at J;simp only [af] at J;exact absurd e3 ((h3 U J).2.1 b q C W)
   ·rw [A Z F] at J;exact G.mem.inj b Z q U W J e3
 ·by_cases C:b=c
  ·rw [C];exact hc
  ·rw [A b C] at e;have:=G.mem.low b q e;exact kK this hnb
 ·by_cases C:b=c
  ·subst C;rw [E] at e;simp only [af] at e;exact (h3 q e).1
  ·rw [A b C] at e;exact kK (G.mem.dom b q e) h4
 ·simp only [St.app,jX,gh,aG] at hl;split at hl
  ·rename_i e;subst e;simp only [af] at hl;subst hl;exact h2
  ·rename_i Q;obtain ⟨Y,g1,g2,g3,g4⟩:=hH b y (λe=>Q e.symm) hl M;exact (G.mem.blk b Y g1 g2).map (A b (λe=>Q e.symm)) (λq hq=>h1 b q (λe=>Q e.symm) hq) g3 g4
 ·by_cases C:b=c
  ·subst C;exact .inr (by simp only [St.app,hrb];exact h6 q e)
  ·rw [A b C];simp only [St.app,hrb];exact G.ext b q e
 ·by_cases C:b=c
  ·subst C;rw [E] at e;simp only [af] at e;exact (h3 q e).2.2.1
  ·rw [A b C] at e;exact G.new b q e
 ·simp only [St.app,K];exact h5
 ·simp only [St.app,hlo];exact G.low
 ·simp only [St.app,K];by_cases C:b=c
  ·subst C;rw [E] at e;simp only [af] at e;have:=(h3 q e).2.2.2;rw [this] at hq;cases hq
  ·rw [A b C] at e;exact G.fz b q e hq
def G6{b c:Nat}(h:isIn [c] b=false):b≠c:=by
 rintro rfl;simp[isIn]at h
def uB{ι:Inj}{c:Nat}{ρ:Option Rf}:∀b,isIn [c] b=false->∀q,ι b=some q->upd ι c ρ b=some q:=by
 intro b d q a;have:=G6 d;simp[upd,this,a]
def lq{o:Oper}{a:Act}{w:World}{args:Array Operand}{b:Array TypeId}{x y:Operand}{t d:TypeId}{X:Value}{w':World}(g:o.op=.call ⟨.builtin .append,args,b⟩)(f:args.toList=[x,y])(i:b.toList=[t,d])
  (h:∀j,(Builtin.append_ #[t,d] j #[a.eval x,a.eval y]).run P w=.ok X w'):(execOp a.eval o).run P w=.ok (.value X) w':=by
 have e:args.map a.eval=#[a.eval x,a.eval y]:=by apply gQ;simp[f]
 have c:b=#[t,d]:=by apply gQ;simp[i]
 simp only[execOp,g,resolve,e,c,al,av,ar,invoke,builtin,h]
def pg{o:Oper}{a:Act}{w w':World}{X:Value}(h:(execOp a.eval o).run P w=.ok (.value X) w'){next:Act->World->Prop}{Q:Exit->Act->World->Prop}(b:next (a.put o.dst X) w'):o.wp P a w next Q:=by
 unfold Oper.wp;rw[h];exact b
def FD{a cap b:Nat}(h1:a<=eO)(h2:cap<a)(f:b<=1048576):Builtin.nextslicecap a cap*b<=281474976710656:=by
 have h1:a<=67108864:=h1;have key:Builtin.nextslicecap a cap<=2*a+768:=by
  have d:∀(m c:Nat),c<=2*a+768->Builtin.growBy a m c<=2*a+768:=by
   intro m
   induction m with
   | zero=>intro c hc;exact hc
   | succ m ih=>
    intro c hc;unfold Builtin.growBy;split
    ·exact hc
    ·exact ih _ (by omega)
  unfold Builtin.nextslicecap;split
  ·omega
  ·split
   ·omega
   ·exact d 4 cap (by omega)
 have e:=rX (show Builtin.nextslicecap a cap<=134218496 by omega) f;exact lT e (by decide)
def AS{ι:Inj}{tr:List Lf}{l m:List (den tr)}{e:TypeId}{zc:Array Value}{cap r:Nat}(d:zc.size=tr.length)(a:l.length+m.length<=cap):
  BR ι (Rf.of r (l.length+m.length) cap) (.rows tr (l++m)) (.cells ((l.flatMap (vals tr)++m.flatMap (vals tr)).toArray++Builtin.zeroCells zc (cap - (l.length+m.length))) e):=by
 have c:=kC (t:=tr) l;have hm:=kC (t:=tr) m;have b:(Builtin.zeroCells zc (cap - (l.length+m.length))).size=(cap - (l.length+m.length))*tr.length:=by simp[Builtin.zeroCells,d]
 refine⟨_,e,(0,0),rfl,by simp,a,?_,?_,.inr (ol _)⟩
 ·simp only[Array.size_append,b,sG,cR,c,hm];rw[<-ea,<-ea,ci];exact kH _ (by omega)
 ·rw[tY,cR,ea,Ak];have:l.length*tr.length+m.length*tr.length=(l.flatMap (vals tr)++m.flatMap (vals tr)).length:=by rw[cR,c,hm]
  rw[this];exact List.take_left
def uP{tr:List Lf}{e:TypeId}(h:Gt P tr e=true):∃i z,P.info? e=some i/\i.zero=some z/\z.cells.size=tr.length/\tr.length=i.size/\0<tr.length/\i.bytes<=1048576:=by
 unfold Gt at h;split at h
 ·rename_i i hi;split at h
  ·rename_i z b;simp only[aw,fP]at h;obtain⟨h1,h2,a,c⟩:=h;have d:i.size=P.cellsOf e:=by unfold Program.cellsOf;rw[hi];rfl
   have a:0<P.cellsOf e:=az a;exact⟨i,z,hi,b,by omega,by omega,by omega,az c⟩
  ·cases h
 ·cases h
def CO{α:Type}{n fr:Nat}{ι0 ι:Inj}{w0:Base}{s:St}{o:Oper}{a:Act}{w:World}{args:Array Operand}{tys:Array TypeId}(ho:o.op=.call ⟨.builtin .append,args,tys⟩)(d:Inv n ι0 w0 ι s a w)
  (Z:ι fr=none) (hge:s.nb<=fr) {k:St->Option α} {z:α} (h:zn P n fr o.dst args.toList tys.toList s k=some z)
  {next:Act->World->Prop} {Q:Exit->Act->World->Prop} (hn:∀s' ι' a' w',k s'=some z->Inv n ι0 w0 ι' s' a' w'->next a' w'):o.wp P a w next Q:=by
 unfold zn at h;split at h
 case h_2=>cases h
 rename_i x y t t2 hd hx ht;split at h
 case h_2=>cases h
 rename_i e L;obtain⟨u,hu,U⟩:=ah h;obtain⟨v,hv,g⟩:=ah U;clear h U;have G:=aP d.tmps hu;have hY:=aP d.tmps hv;have hfr0:∀q,ι0 fr=some q->s.rb<=fr:=by
  intro q F;rcases d.ext fr q F with h | h
  ·rw[Z]at h;cases h
  ·exact h
 split at g
 ·
  simp only[VR]at G;split at g
  case h_2=>cases g
  rename_i tr _;split at g
  case h_2=>cases g
  rename_i I;obtain⟨i,zv,hi,hz,k1,k2,k3,k4⟩:=uP I;obtain⟨m,hm,g⟩:=ah g;obtain⟨C,g⟩:=bR g;have C:=az C;have hle':m.length<=67108864:=C;have A:=ED d.mem hY hm k2;have hTm:=d.tmps.mono (l6 (r:=none) Z);have B:∀{ρ:Option Rf} b y,b≠fr->look s.H b=some y->y≠.dead->∃M,look s.H b=some M/\M≠.dead/\(∀q o,BR ι q M o->BR (upd ι fr ρ) q y o)/\∀t,M=.rows t []->y=.rows t []:=
   λb y _ hl hdd=>⟨y,hl,hdd,λq o hb=>BR.mono (l6 Z) hb,λ_ h=>h⟩
  by_cases h0:m.length=0
  ·have hm0:m=[]:=ta h0;subst hm0;have f:=lq (P:=P) (X:=.slice none 0 0) (w':=w) ho hx ht λty=>by
    rw[G];have:=run_append_nothing (P:=P) w t t2 ty e i L hi none 0 0 (aI _) (a.eval y) (by simpa using A);simpa using this
   refine pg f (hn _ (upd ι fr none) _ _ g (Inv.rebind d hTm B rfl rfl rfl (yS _ _) (by omega) hd (λ_ _ _ _=>rfl) (.inr ⟨bZ _ _ _,tr,rfl⟩) (λq F=>by cases F) (aI _) d.fr hfr0 ?_));unfold VR;exact .inr ⟨bZ _ _ _,_,rfl⟩
  ·have K:m.length<=grownCap w m.length 0 e:=by simp only[grownCap,Question.cut];omega
   have f:=lq (P:=P) (X:=.slice (some ⟨w.heap.size,0,none⟩) m.length (grownCap w m.length 0 e))
     (w':=w.drew.alloc (.cells ((m.flatMap (vals tr)).toArray++Builtin.zeroCells zv.cells (grownCap w m.length 0 e - m.length)) e)) ho hx ht λty=>by
    rw[G];have:=run_append_grow_src (P:=P) w t t2 ty e i zv L hi hz none 0 0 [] (run_firstCells_none _ _ _ _ _) (a.eval y) m.length _ A (by omega) (by omega) (FD (by simpa using C) (by omega) k4);simpa using this
   refine pg f (hn _ (upd ι fr (some (Rf.of w.heap.size (m.length) (grownCap w m.length 0 e)))) _ _ g (Inv.rebind d (d.tmps.mono (l6 Z)) B rfl rfl rfl (yS _ _) (by omega) hd (λb q hb F=>?_)
    (.inl ⟨_,_,bZ _ _ _,gC _ _,?_⟩) (λq F=>?_) (by show w.heap.size<=(w.heap.push _).size;simp) (by exact(d.fr.draws (w.drawn+1)).alloc _) hfr0 ?_))
   ·exact gq _ _ (ww (d.mem.dom b q F))
   ·have:=AS (ι:=upd ι fr (some (Rf.of w.heap.size (m.length) (grownCap w m.length 0 e)))) (tr:=tr) (l:=[]) (m:=m) (e:=e) (zc:=zv.cells) (cap:=grownCap w m.length 0 e) (r:=w.heap.size) k1 (by simpa using K);simpa using this
   ·simp only[af]at F;subst F;refine⟨by show w.heap.size<(w.heap.push _).size;simp,λb q' _ hq'=>ww (d.mem.dom b q' hq'),.inr d.fr.size,rfl⟩
   ·simp only[VR];exact .inl ⟨_,bZ _ _ _,rfl⟩
 ·rename_i c;simp only[VR]at G;split at g
  case h_2=>cases g
  rename_i tr l hb;split at g
  case h_2=>cases g
  rename_i I;simp only[aw]at I;obtain⟨I,N,D⟩:=I;have N:=az N;have D:=az D;obtain⟨i,zv,hi,hz,k1,k2,k3,k4⟩:=uP I;obtain⟨m,hm,g⟩:=ah g;obtain⟨C,g⟩:=bR g;have C:=az C;have hle':l.length+m.length<=67108864:=C;have A:=ED d.mem hY hm k2;have hTk:∀{ρ:Option Rf},TR (upd ι c ρ) (s.kill [c]).T a.tmps:=by
   intro ρ;rw[St.kill_eq];exact d.tmps.kill uB
  have B:∀{ρ:Option Rf} b y,b≠c->look (s.kill [c]).H b=some y->y≠.dead->∃M,look s.H b=some M/\M≠.dead/\(∀q o,BR ι q M o->BR (upd ι c ρ) q y o)/\∀t,M=.rows t []->y=.rows t []:=by
   intro ρ b y hbc hl hdd;rw[St.kill_eq]at hl;simp only[pQ]at hl;cases hy:look s.H b with
   | none=>rw[hy]at hl;cases hl
   | some M=>
    rw[hy]at hl;simp only[dB,af]at hl;subst hl;exact⟨M,rfl,by rintro rfl;exact hdd rfl,λq o hbr=>BR.kill uB hbr,by rintro t rfl;rfl⟩
  have hlo:(s.kill [c]).lo=s.lo:=by rw[St.kill_eq]
  have hro:(s.kill [c]).ro=s.ro:=by rw[St.kill_eq]
  have hrb:(s.kill [c]).rb=s.rb:=by rw[St.kill_eq]
  have hcn:c<s.nb:=by
   rcases d.mem.blk c _ hb (by simp)with⟨q,_,h1,_⟩ | ⟨h1,_⟩
   ·exact d.mem.low c _ h1
   ·exact d.mem.low c _ h1
  have grow:∀{base:Option Addr} {cp:Nat},a.eval x=.slice base l.length cp->(Builtin.firstCells i.size l.length (.slice base l.length cp)).run P w.drew=.ok (l.flatMap (vals tr)).toArray w.drew->cp<l.length+m.length->o.wp P a w next Q:=by
   intro base cp G hold hlt;have K:l.length+m.length<=grownCap w (l.length+m.length) cp e:=by simp only[grownCap,Question.cut];omega
   have f:=lq (P:=P) (X:=.slice (some ⟨w.heap.size,0,none⟩) (l.length+m.length) (grownCap w (l.length+m.length) cp e))
     (w':=w.drew.alloc (.cells ((l.flatMap (vals tr)++m.flatMap (vals tr)).toArray++Builtin.zeroCells zv.cells (grownCap w (l.length+m.length) cp e - (l.length+m.length))) e)) ho hx ht λty=>by
    rw[G];exact run_append_grow_src (P:=P) w t t2 ty e i zv L hi hz base l.length cp _ hold (a.eval y) m.length _ A hlt (by omega) (FD C hlt k4)
   refine pg f (hn _ (upd ι c (some (Rf.of w.heap.size (l.length+m.length) (grownCap w (l.length+m.length) cp e)))) _ _ g (Inv.rebind d hTk B hlo hro hrb (aI _) hcn hd (λb q hb F=>?_)
    (.inl ⟨_,_,bZ _ _ _,gC _ _,AS k1 K⟩) (λq F=>?_) (by show w.heap.size<=(w.heap.push _).size;simp) (by exact(d.fr.draws (w.drawn+1)).alloc _) (λ_ _=>D) ?_))
   ·exact gq _ _ (ww (d.mem.dom b q F))
   ·simp only[af]at F;subst F;refine⟨by show w.heap.size<(w.heap.push _).size;simp,λb q' _ hq'=>ww (d.mem.dom b q' hq'),.inr d.fr.size,rfl⟩
   ·simp only[VR];exact .inl ⟨_,bZ _ _ _,rfl⟩
  rcases f9 d.mem hb with⟨q,S,e',fz,U,g2,g4,g5,g6,g7,g8⟩ | ⟨U,rfl⟩
  ·rcases G with⟨q',J,G⟩ | ⟨J,_⟩
   ·rw[J]at U;cases U;have W:q.fz=false:=by
     cases hc:q.fz with
     | false=>rfl
     | true=>have:=d.fz c q J hc;omega
    have g8:=g8.resolve_left (by rw[W];simp);by_cases E:q.n+m.length<=q.k
    ·have V:=kC (t:=tr) m;have Y:q.o+q.n*tr.length+m.length*tr.length<=S.size:=by
      have h1:=kH tr.length E;rw[ea]at h1;omega
     have R:∀j,j<(m.flatMap (vals tr)).length->w.cell? ⟨q.r,q.o+q.n*i.size+j,none⟩=S[q.o+q.n*tr.length+j]?:=by
      intro j hj;rw[aN g2,<-k2]
     have hfz:∀j,j<(m.flatMap (vals tr)).length->w.frozen? ⟨q.r,q.o+q.n*i.size+j,none⟩=false:=by
      intro j hj;exact mF g2 g8 (by rw[<-k2];omega)
     have hst:=iz (P:=P) q.r (q.o+q.n*i.size) e' fz (m.flatMap (vals tr)) 0 S w g2 g8 (by rw[V,<-k2];omega) rO;have O:=run_storeCells_cells (P:=P) q.r (q.o+q.n*i.size) (m.flatMap (vals tr)) 0 w (by
      intro j hj;rw[eu,R j hj];simp;omega) (by intro j hj;rw[eu];exact hfz j hj) rO
     have hw:w.setCells q.r (q.o+q.n*i.size) (m.flatMap (vals tr))=setObj w q.r (.cells (splA S (q.o+q.n*tr.length) (m.flatMap (vals tr))) e' fz):=by
      rw[hst]at O;simp only[eu,tU,lW,<-k2]at O;rw[<-k2];exact O.symm
     have f:=lq (P:=P) (X:=.slice (some ⟨q.r,q.o,none⟩) (q.n+m.length) q.k) (w':=setObj w q.r (.cells (splA S (q.o+q.n*tr.length) (m.flatMap (vals tr))) e' fz)) ho hx ht λty=>by
      rw[G,<-hw];exact run_append_room_src (P:=P) w t t2 ty e i L hi q.r q.o q.n q.k (a.eval y) m.length _ A E (λj hj=>by rw[R j hj];simp;omega) hfz
     have hssz:(splA S (q.o+q.n*tr.length) (m.flatMap (vals tr))).size=S.size:=sq (by rw[V];exact Y)
     refine pg f (hn _ (upd ι c (some ⟨q.r,q.n+m.length,q.k,q.o,q.fz⟩)) _ _ g (Inv.rebind d hTk B hlo hro hrb (aI _) hcn hd (λb p hbc hp=>nK _ λer=>hbc ((d.mem.inj c b q p J hp er).resolve_right λhh=>by rw[W]at hh;cases hh.1).symm)
      (.inl ⟨_,_,bZ _ _ _,tQ g2,⟨_,e',fz,rfl,by simp[g4],E,by rw[hssz];exact g6,?_,.inr (by rw[hssz];exact g8)⟩⟩) (λp hp=>?_) (by simp[setObj]) ?_ (λ_ _=>D) ?_))
     ·show((splA S (q.o+q.n*tr.length) (m.flatMap (vals tr))).toList.drop q.o).take _=_;rw[xm (by omega),cR,g4,Ak,<-g7,g4];have hdl:(S.toList.drop q.o).length=S.size - q.o:=by simp
      rw[ea,<-o7,qB (by rw[cR,dj,hdl,V];omega)];rw[gI (by rw[cR,dj,hdl,V];omega)]
     ·simp only[af]at hp;subst hp;refine⟨by have:=d.mem.dom c q J;simpa[setObj]using this,λb p' hbc hp' er=>hbc ((d.mem.inj b c p' q hp' J er).resolve_right λhh=>by rw[W]at hh;cases hh.2),d.new c q J,W⟩
     ·exact d.fr.write ((d.new c q J).imp (λ⟨q0,h,hr⟩=>⟨c,q0,xR h N,hr⟩) id) _
     ·simp only[VR];exact .inl ⟨_,bZ _ _ _,rfl⟩
    ·refine grow (base:=some ⟨q.r,q.o,none⟩) (cp:=q.k) (by rw[G,g4]) ?_ (by omega);have hfl:=kC (t:=tr) l;exact run_firstCells_some w.drew i.size l.length ⟨q.r,q.o,none⟩ l.length q.k _ (by rw[hfl,k2]) (vP (off:=0) (w:=w.drew) g2 (m:=l.length*tr.length) (by rw[g7,iE,oz]))
   ·rw[J]at U;cases U
  ·rcases G with⟨q',J,G⟩ | ⟨J,ao,G⟩
   ·rw[J]at U;cases U
   ·by_cases h0:m.length=0
    ·have hm0:m=[]:=ta h0;subst hm0;have f:=lq (P:=P) (X:=.slice ao 0 0) (w':=w) ho hx ht λty=>by
      rw[G];have:=run_append_nothing (P:=P) w t t2 ty e i L hi ao 0 0 (aI _) (a.eval y) (by simpa using A);simpa using this
     refine pg f (hn _ (upd ι c none) _ _ g (Inv.rebind d hTk B hlo hro hrb (aI _) hcn hd (λ_ _ _ _=>rfl) (.inr ⟨bZ _ _ _,tr,rfl⟩) (λq F=>by cases F) (aI _) d.fr (λ_ _=>D) ?_));unfold VR;exact .inr ⟨bZ _ _ _,_,rfl⟩
    ·exact grow (base:=ao) (cp:=0) (by rw[G];rfl) (BN _ _ _) (by simp;omega)
 ·cases g
def vo{α:Type}{E:List Ent}(I:∀x∈E,cN P x){n fr:Nat}{ι0 ι:Inj}{w0:Base}{s:St}{o:Oper}{a:Act}{w:World}(B:Inv n ι0 w0 ι s a w)
  (m:∀b,fr<=b->ι b=none) (G:s.nb<=fr) {k:St->Option α} {J:V->St->Option α} {z:α} (h:DL P E n fr o s k J=some z)
  {next:Act->World->Prop} {Q:Exit->Act->World->Prop}
  (A:∀p c i w',k p=some z->Inv n ι0 w0 c p i w'->next i w')
  (C:∀v p c x i w',J v p=some z->VR c v x->Inv n ι0 w0 c p i w'->Q (.panic [{ v:=x,recovered:=false }]) i w'):
  o.wp P a w next Q:=by
 unfold DL at h;split at h
 ·rename_i K y;split at h
  ·rename_i g d;split at h
   ·rename_i f cap O N;obtain⟨l,S,h⟩:=ah h;obtain⟨r,h2,L⟩:=rj I h;split at h2
    ·cases h2
    rename_i u;simp only[aw]at u;obtain⟨q,args,H⟩:=K;simp only at d;subst d;refine wn y B (λb M _=>m b M) O N S u.1 u.2 (L _ λ_ _=>rfl) (λe c i w' _ t=>?_) (λe c x w' R t=>?_)
    ·rw[e]at h2;exact A _ c i w' h2 t
    ·rw[e]at h2;exact C _ _ c x a w' h2 R t
   ·cases h
  ·rename_i d;obtain⟨q,args,H⟩:=K;simp only at d;subst d;exact CO y B (m fr (aI _)) G h A
  ·exact A0 I B (λb D _=>m b D) h (λp _ _ _ c i w' F _ j=>A p c i w' F j) C
 ·exact A0 I B (λb D _=>m b D) h (λp _ _ _ c i w' F _ j=>A p c i w' F j) C
end Go.Abs
