
import Derived.Test.YtadejcglcffgbabGreatDoorAbsN
import Derived.Deep.Upon
set_option linter.unusedSimpArgs false
set_option linter.unusedVariables false
set_option linter.defProp false
namespace Go.Abs
variable {P:Program}
def BS:∀{t:List Lf} {x:den t},∀u∈vals t x,u.oneCell'=true
 | [],_,u,h=>by simp[vals]at h
 | [a],x,u,h=>by
  simp only[vals,lx]at h;subst h;cases a<;>rfl
 | a::b::l,x,u,h=>by
  simp only[vals,bX]at h;rcases h with rfl | h
  ·cases a<;>rfl
  ·exact BS (t:=b::l) u (by simpa using h)
def ru{t:List Lf}{l:List (den t)}:∀u∈l.flatMap (vals t),u.oneCell'=true:=by
 intro u h;obtain⟨x,_,hx⟩:=zU.1 h;exact BS u hx
def mF{t a:List Lf}{l:List (den t)}{m:List (den a)}(h:km t a l=some m):∃e:t=a,m=e▸l:=by
 unfold km at h;split at h
 ·rename_i e;simp only[aq]at h;exact⟨e,h.symm⟩
 ·cases h
def we{w:World}{r:Nat}{f:Array Value}{e:TypeId}{fr:Nat×Nat}(h:w.heap[r]?=some (.cells f e fr)){off o:Nat}{news:List Value}{m:Nat}(i:(((f.toList.drop o).take m).drop off).take news.length=news):
  ∀j u,news[j]?=some u->w.cell? ((⟨r,o+off,none⟩:Addr).add j)=some u:=by
 intro j u d;have c:j<news.length:=by
  rcases aI j news.length with b | b
  ·exact b
  ·rw[dX b]at d;cases d
 rw[kx,bB h];have a:=fc (λq:List Value=>q[j]?) i;simp only[mR c,jK,d]at a;by_cases g:off+j<m
 ·rw[mR g,jK]at a;simpa[gh]using a
 ·rw[dX (by rw[dx];omega)]at a;cases a
def Src.empty{w:World}{size:Nat}{A F:TypeId}(C:P.underlying A=some (.slice F))(E:Option Addr):Src P size A (.slice E 0 0) 0 [] w:=by
 cases E with
 | none=>exact Src.ofNil w C 0
 | some a=>exact Src.ofSlice w C a 0 0 [] (by simp) (λj u J=>by simp at J) (λu G=>by cases G)
def Ds(size:Nat)(b:Option Addr)(w:World):(Builtin.firstCells size 0 (.slice b 0 0)).run P w=.ok #[] w:=by
 cases b with
 | none=>exact run_firstCells_none _ _ _ _ _
 | some a=>exact run_firstCells_some w size 0 a 0 0 [] (by simp) (λj u c=>by simp at c)
def Ee{ι:Inj}{H:List (Nat×Blk)}{nb:Nat}{w:World}(A:WR ι H nb w){b:V}{Y:Value}(f:VR ι b Y){tr:List Lf}{z:TypeId}{m:List (den tr)}(h:srcK P H tr z b=some m)
  {size:Nat} (hs:tr.length=size):Src P size z Y m.length (m.flatMap (vals tr)) w:=by
 unfold srcK at h;split at h
 ·rename_i e g;split at h
  ·simp only[aq]at h;subst h;simp only[VR]at f;subst f;exact Src.ofNil w g 0
  ·rename_i c;split at h
   case h_2=>cases h
   rename_i t l y;obtain⟨rfl,rfl⟩:=mF h;simp only[VR]at f;rcases gD A y with⟨q,L,C,fr,a,s,B,I,J,r,_⟩ | ⟨a,rfl⟩
   ·rcases f with⟨G,d,rfl⟩ | ⟨d,_⟩
    ·rw[d]at a;cases a;rw[<-B];refine Src.ofSlice w g _ _ _ _ (by rw[ls,hs]) (we (off:=0) s (m:=m.length*t.length) ?_) ru;rw[r,gk,oM]
    ·rw[d]at a;cases a
   ·rcases f with⟨q,d,_⟩ | ⟨d,v,rfl⟩
    ·rw[d]at a;cases a
    ·exact Src.empty g v
  ·rename_i N c j n _;split at h
   case h_2=>cases h
   rename_i t l y;split at h
   case h_2=>cases h
   rename_i o;have o:=be o;obtain⟨k,h⟩:=dU h;have k:=aJ k;obtain⟨rfl,rfl⟩:=mF h;have p:((l.drop j).take n).length=n:=by rw[dx,lY];omega
   simp only[VR]at f;rw[p];rcases f with⟨q,cp,off,d,M,F,rfl⟩ | ⟨d,⟨rfl,_⟩,v,rfl⟩
   ·rcases gD A y with⟨G,L,C,fr,a,s,B,I,J,r,_⟩ | ⟨a,rfl⟩
    ·rw[d]at a;cases a;refine Src.ofSlice w g _ _ _ _ (by rw[ls,p,hs]) ?_ ru;by_cases x:0<n
     ·rw[F x,o];refine we s (m:=l.length*t.length) ?_;rw[r,<-sQ,ls,p,<-tQ]
     ·have x:n=0:=by omega
      subst x;intro j u K;simp at K
    ·rw[d]at a;cases a
   ·simp only[nE,List.flatMap_nil];exact Src.empty g v
  ·cases h
 ·rename_i g;split at h
  case h_2=>cases h
  rename_i l;obtain⟨rfl,rfl⟩:=mF h;simp only[VR]at f;subst f;simp only[cU,iN]at hs;subst hs;have:=Src.ofString (P:=P) w g ⟨l.toArray⟩;have E:byteCells ⟨l.toArray⟩=(l.map λb=>((b.toNat:Nat):Int)).flatMap (vals [.i .u8]):=by
   rw[nV];simp[byteCells]
  have D:(ByteArray.mk l.toArray).size=(l.map λb=>((b.toNat:Nat):Int)).length:=by rw[FR];rfl
  rw[E,D]at this;exact this
 ·cases h
def Inv.rebind {n:Nat} {ι0 ι:Inj} {w0:Base} {w w':World} {s X:St} {a:Act} {c O:Nat} {ρ:Option Rf} {blk:Blk} {v:V} {x:Value} {dst:Option Nat} (G:Inv n ι0 w0 ι s a w)
  (hT:TR (upd ι c ρ) X.T a.tmps) (hH:∀b y,b≠c->look X.H b=some y->y≠.dead->∃Z,look s.H b=some Z/\Z≠.dead/\(∀q o,BR ι q Z o->BR (upd ι c ρ) q y o)/\∀t,Z=.rows t []->y=.rows t [])
  (hlo:X.lo=s.lo) (Q:X.ro=s.ro) (hrb:X.rb=s.rb) (hnb:s.nb<=O) (hc:c<O) (hd:qu n dst=true)
  (h1:∀b q,b≠c->ι b=some (some q)->w'.heap[q.r]?=w.heap[q.r]?) (h2:BW (upd ι c ρ) w' c blk) (h3:∀q,ρ=some q->q.r<w'.heap.size/\(∀b Y,b≠c->ι b=some (some Y)->Y.r≠q.r)/\
   ((∃q0,ι0 c=some (some q0)/\q0.r=q.r)\/w0.w.heap.size<=q.r)/\q.fz=false) (h4:w.heap.size<=w'.heap.size) (h5:Fr (roI ι0 s.ro) w0.w w') (h6:∀q,ι0 c=some q->s.rb<=c)
  (hv:VR (upd ι c ρ) v x):Inv n ι0 w0 (upd ι c ρ) (X.app dst (some v) [(c,blk)] O) (a.put dst x) w':=by
 have A:∀b,b≠c->upd ι c ρ b=ι b:=λb C=>by simp [upd,C]
 have E:upd ι c ρ c=some ρ:=by simp [upd]
 refine ⟨by rw [lk];exact G.size,by rw [il];exact G.defers,hT.app G.size hd (λu hu=>by cases hu;exact hv),⟨λb b' q Y W J e3=>?_,λb q e=>?_,λb q e=>?_,λb y hl U=>?_⟩,λb q e=>?_,λb q e=>?_,?_,?_,λb q e hq=>?_,by simp only [St.app,Q];exact G.gl⟩
 ·by_cases C:b=c
  ·by_cases F:b'=c
   ·exact .inl (by rw [C,F])
   ·subst C;rw [E] at W;rw [A b' F] at J;simp only [aq] at W;exact absurd e3.symm ((h3 q W).2.1 b' Y F J)
  ·rw [A b C] at W;by_cases F:b'=c
   ·subst F;rw [E] at J;simp only [aq] at J;exact absurd e3 ((h3 Y J).2.1 b q C W)
   ·rw [A b' F] at J;exact G.mem.inj b b' q Y W J e3
 ·by_cases C:b=c
  ·rw [C];exact hc
  ·rw [A b C] at e;have:=G.mem.low b q e;exact lH this hnb
 ·by_cases C:b=c
  ·subst C;rw [E] at e;simp only [aq] at e;exact (h3 q e).1
  ·rw [A b C] at e;exact lH (G.mem.dom b q e) h4
 ·simp only [St.app,kL,gP,aO] at hl;split at hl
  ·rename_i e;subst e;simp only [aq] at hl;subst hl;exact h2
  ·rename_i M;obtain ⟨Z,g1,g2,g3,g4⟩:=hH b y (λe=>M e.symm) hl U;exact (G.mem.blk b Z g1 g2).map (A b (λe=>M e.symm)) (λq hq=>h1 b q (λe=>M e.symm) hq) g3 g4
 ·by_cases C:b=c
  ·subst C;exact .inr (by simp only [St.app,hrb];exact h6 q e)
  ·rw [A b C];simp only [St.app,hrb];exact G.ext b q e
 ·by_cases C:b=c
  ·subst C;rw [E] at e;simp only [aq] at e;exact (h3 q e).2.2.1
  ·rw [A b C] at e;exact G.new b q e
 ·simp only [St.app,Q];exact h5
 ·simp only [St.app,hlo];exact G.low
 ·simp only [St.app,Q];by_cases C:b=c
  ·subst C;rw [E] at e;simp only [aq] at e;have:=(h3 q e).2.2.2;rw [this] at hq;cases hq
  ·rw [A b C] at e;exact G.fz b q e hq
def Im{b c:Nat}(h:isIn [c] b=false):b≠c:=by
 rintro rfl;simp[isIn]at h
def vf{ι:Inj}{c:Nat}{ρ:Option Rf}:∀b,isIn [c] b=false->∀q,ι b=some q->upd ι c ρ b=some q:=by
 intro b d q a;have:=Im d;simp[upd,this,a]
def l5{o:Oper}{a:Act}{w:World}{args:Array Operand}{b:Array TypeId}{x y:Operand}{t c:TypeId}{X:Value}{w':World}(f:o.op=.call ⟨.builtin .append,args,b⟩)(hx:args.toList=[x,y])(g:b.toList=[t,c])
  (h:∀i,(Builtin.append_ #[t,c] i #[a.eval x,a.eval y]).run P w=.ok X w'):(execOp a.eval o).run P w=.ok (.value X) w':=by
 have e:args.map a.eval=#[a.eval x,a.eval y]:=by apply kH;simp[hx]
 have d:b=#[t,c]:=by apply kH;simp[g]
 simp only[execOp,f,resolve,e,d,ax,aA,az,invoke,builtin,h]
def pt{o:Oper}{a:Act}{w w':World}{X:Value}(h:(execOp a.eval o).run P w=.ok (.value X) w'){next:Act->World->Prop}{Q:Exit->Act->World->Prop}(b:next (a.put o.dst X) w'):o.wp P a w next Q:=by
 unfold Oper.wp;rw[h];exact b
def ES{a cap bytes:Nat}(b:a<=bE)(g:cap<a)(d:bytes<=1048576):Builtin.nextslicecap a cap*bytes<=281474976710656:=by
 have b:a<=67108864:=b;have key:Builtin.nextslicecap a cap<=2*a+768:=by
  have e:∀(m c:Nat),c<=2*a+768->Builtin.growBy a m c<=2*a+768:=by
   intro m
   induction m with
   | zero=>intro c hc;exact hc
   | succ m ih=>
    intro c hc;unfold Builtin.growBy;split
    ·exact hc
    ·exact ih _ (by omega)
  unfold Builtin.nextslicecap;split
  ·omega
  ·split
   ·omega
   ·exact e 4 cap (by omega)
 have f:=ul (show Builtin.nextslicecap a cap<=134218496 by omega) d;exact ow f (by decide)
def BY{ι:Inj}{tr:List Lf}{l m:List (den tr)}{e:TypeId}{zc:Array Value}{cap r:Nat}(f:zc.size=tr.length)(a:l.length+m.length<=cap):
  BR ι (Rf.of r (l.length+m.length) cap) (.rows tr (l++m)) (.cells ((l.flatMap (vals tr)++m.flatMap (vals tr)).toArray++Builtin.zeroCells zc (cap - (l.length+m.length))) e):=by
 have c:=ls (t:=tr) l;have d:=ls (t:=tr) m;have b:(Builtin.zeroCells zc (cap - (l.length+m.length))).size=(cap - (l.length+m.length))*tr.length:=by simp[Builtin.zeroCells,f]
 refine⟨_,e,(0,0),rfl,by simp,a,?_,?_,.inr (pa _)⟩
 ·simp only[Array.size_append,b,wQ,gv,c,d];rw[<-fh,<-fh,bV];exact lz _ (by omega)
 ·rw[ua,gv,fh,CU];have:l.length*tr.length+m.length*tr.length=(l.flatMap (vals tr)++m.flatMap (vals tr)).length:=by rw[gv,c,d]
  rw[this];exact List.take_left
def uG{tr:List Lf}{e:TypeId}(h:HK P tr e=true):∃i z,P.info? e=some i/\i.zero=some z/\z.cells.size=tr.length/\tr.length=i.size/\0<tr.length/\i.bytes<=1048576:=by
 unfold HK at h;split at h
 ·rename_i i hi;split at h
  ·rename_i z c;simp only[aC,iR]at h;obtain⟨g,f,a,b⟩:=h;have d:i.size=P.cellsOf e:=by unfold Program.cellsOf;rw[hi];rfl
   have a:0<P.cellsOf e:=aJ a;exact⟨i,z,hi,c,by omega,by omega,by omega,aJ b⟩
  ·cases h
 ·cases h
def C4{α:Type}{n fr:Nat}{ι0 ι:Inj}{w0:Base}{s:St}{o:Oper}{a:Act}{w:World}{args:Array Operand}{tys:Array TypeId}(ho:o.op=.call ⟨.builtin .append,args,tys⟩)(d:Inv n ι0 w0 ι s a w)
  (Y:ι fr=none) (hge:s.nb<=fr) {k:St->Option α} {z:α} (h:zN P n fr o.dst args.toList tys.toList s k=some z)
  {next:Act->World->Prop} {Q:Exit->Act->World->Prop} (hn:∀s' ι' a' w',k s'=some z->Inv n ι0 w0 ι' s' a' w'->next a' w'):o.wp P a w next Q:=by
 unfold zN at h;split at h
 case h_2=>cases h
 rename_i x y t t2 hd hx ht;split at h
 case h_2=>cases h
 rename_i e K;obtain⟨u,hu,S⟩:=av h;obtain⟨v,hv,g⟩:=av S;clear h S;have E:=aZ d.tmps hu;have hY:=aZ d.tmps hv;have hfr0:∀q,ι0 fr=some q->s.rb<=fr:=by
  intro q F;rcases d.ext fr q F with h | h
  ·rw[Y]at h;cases h
  ·exact h
 split at g
 ·
  simp only[VR]at E;split at g
  case h_2=>cases g
  rename_i tr _;split at g
  case h_2=>cases g
  rename_i I;obtain⟨i,zv,hi,hz,k1,k2,k3,k4⟩:=uG I;obtain⟨m,hm,g⟩:=av g;obtain⟨C,g⟩:=dU g;have C:=aJ C;have hle':m.length<=67108864:=C;have A:=Ee d.mem hY hm k2;have hTm:=d.tmps.mono (mj (r:=none) Y);have B:∀{ρ:Option Rf} b y,b≠fr->look s.H b=some y->y≠.dead->∃N,look s.H b=some N/\N≠.dead/\(∀q o,BR ι q N o->BR (upd ι fr ρ) q y o)/\∀t,N=.rows t []->y=.rows t []:=
   λb y _ hl hdd=>⟨y,hl,hdd,λq o hb=>BR.mono (mj Y) hb,λ_ h=>h⟩
  by_cases h0:m.length=0
  ·have hm0:m=[]:=sN h0;subst hm0;have f:=l5 (P:=P) (X:=.slice none 0 0) (w':=w) ho hx ht λty=>by
    rw[E];have:=run_append_nothing (P:=P) w t t2 ty e i K hi none 0 0 (aV _) (a.eval y) (by simpa using A);simpa using this
   refine pt f (hn _ (upd ι fr none) _ _ g (Inv.rebind d hTm B rfl rfl rfl (y9 _ _) (by omega) hd (λ_ _ _ _=>rfl) (.inr ⟨cH _ _ _,tr,rfl⟩) (λq F=>by cases F) (aV _) d.fr hfr0 ?_));unfold VR;exact .inr ⟨cH _ _ _,_,rfl⟩
  ·have M:m.length<=grownCap w m.length 0 e:=by simp only[grownCap,Question.cut];omega
   have f:=l5 (P:=P) (X:=.slice (some ⟨w.heap.size,0,none⟩) m.length (grownCap w m.length 0 e))
     (w':=w.drew.alloc (.cells ((m.flatMap (vals tr)).toArray++Builtin.zeroCells zv.cells (grownCap w m.length 0 e - m.length)) e)) ho hx ht λty=>by
    rw[E];have:=run_append_grow_src (P:=P) w t t2 ty e i zv K hi hz none 0 0 [] (run_firstCells_none _ _ _ _ _) (a.eval y) m.length _ A (by omega) (by omega) (ES (by simpa using C) (by omega) k4);simpa using this
   refine pt f (hn _ (upd ι fr (some (Rf.of w.heap.size (m.length) (grownCap w m.length 0 e)))) _ _ g (Inv.rebind d (d.tmps.mono (mj Y)) B rfl rfl rfl (y9 _ _) (by omega) hd (λb q hb F=>?_)
    (.inl ⟨_,_,cH _ _ _,jv _ _,?_⟩) (λq F=>?_) (by show w.heap.size<=(w.heap.push _).size;simp) (by exact(d.fr.draws (w.drawn+1)).alloc _) hfr0 ?_))
   ·exact gY _ _ (wo (d.mem.dom b q F))
   ·have:=BY (ι:=upd ι fr (some (Rf.of w.heap.size (m.length) (grownCap w m.length 0 e)))) (tr:=tr) (l:=[]) (m:=m) (e:=e) (zc:=zv.cells) (cap:=grownCap w m.length 0 e) (r:=w.heap.size) k1 (by simpa using M);simpa using this
   ·simp only[aq]at F;subst F;refine⟨by show w.heap.size<(w.heap.push _).size;simp,λb q' _ hq'=>wo (d.mem.dom b q' hq'),.inr d.fr.size,rfl⟩
   ·simp only[VR];exact .inl ⟨_,cH _ _ _,rfl⟩
 ·rename_i c;simp only[VR]at E;split at g
  case h_2=>cases g
  rename_i tr l hb;split at g
  case h_2=>cases g
  rename_i I;simp only[aC]at I;obtain⟨I,L,D⟩:=I;have L:=aJ L;have D:=aJ D;obtain⟨i,zv,hi,hz,k1,k2,k3,k4⟩:=uG I;obtain⟨m,hm,g⟩:=av g;obtain⟨C,g⟩:=dU g;have C:=aJ C;have hle':l.length+m.length<=67108864:=C;have A:=Ee d.mem hY hm k2;have hTk:∀{ρ:Option Rf},TR (upd ι c ρ) (s.kill [c]).T a.tmps:=by
   intro ρ;rw[St.kill_eq];exact d.tmps.kill vf
  have B:∀{ρ:Option Rf} b y,b≠c->look (s.kill [c]).H b=some y->y≠.dead->∃N,look s.H b=some N/\N≠.dead/\(∀q o,BR ι q N o->BR (upd ι c ρ) q y o)/\∀t,N=.rows t []->y=.rows t []:=by
   intro ρ b y Z hl hdd;rw[St.kill_eq]at hl;simp only[qF]at hl;cases hy:look s.H b with
   | none=>rw[hy]at hl;cases hl
   | some N=>
    rw[hy]at hl;simp only[ek,aq]at hl;subst hl;exact⟨N,rfl,by rintro rfl;exact hdd rfl,λq o hbr=>BR.kill vf hbr,by rintro t rfl;rfl⟩
  have hlo:(s.kill [c]).lo=s.lo:=by rw[St.kill_eq]
  have hro:(s.kill [c]).ro=s.ro:=by rw[St.kill_eq]
  have hrb:(s.kill [c]).rb=s.rb:=by rw[St.kill_eq]
  have hcn:c<s.nb:=by
   rcases d.mem.blk c _ hb (by simp)with⟨q,_,h1,_⟩ | ⟨h1,_⟩
   ·exact d.mem.low c _ h1
   ·exact d.mem.low c _ h1
  have grow:∀{base:Option Addr} {cp:Nat},a.eval x=.slice base l.length cp->(Builtin.firstCells i.size l.length (.slice base l.length cp)).run P w.drew=.ok (l.flatMap (vals tr)).toArray w.drew->cp<l.length+m.length->o.wp P a w next Q:=by
   intro base cp E hold hlt;have M:l.length+m.length<=grownCap w (l.length+m.length) cp e:=by simp only[grownCap,Question.cut];omega
   have f:=l5 (P:=P) (X:=.slice (some ⟨w.heap.size,0,none⟩) (l.length+m.length) (grownCap w (l.length+m.length) cp e))
     (w':=w.drew.alloc (.cells ((l.flatMap (vals tr)++m.flatMap (vals tr)).toArray++Builtin.zeroCells zv.cells (grownCap w (l.length+m.length) cp e - (l.length+m.length))) e)) ho hx ht λty=>by
    rw[E];exact run_append_grow_src (P:=P) w t t2 ty e i zv K hi hz base l.length cp _ hold (a.eval y) m.length _ A hlt (by omega) (ES C hlt k4)
   refine pt f (hn _ (upd ι c (some (Rf.of w.heap.size (l.length+m.length) (grownCap w (l.length+m.length) cp e)))) _ _ g (Inv.rebind d hTk B hlo hro hrb (aV _) hcn hd (λb q hb F=>?_)
    (.inl ⟨_,_,cH _ _ _,jv _ _,BY k1 M⟩) (λq F=>?_) (by show w.heap.size<=(w.heap.push _).size;simp) (by exact(d.fr.draws (w.drawn+1)).alloc _) (λ_ _=>D) ?_))
   ·exact gY _ _ (wo (d.mem.dom b q F))
   ·simp only[aq]at F;subst F;refine⟨by show w.heap.size<(w.heap.push _).size;simp,λb q' _ hq'=>wo (d.mem.dom b q' hq'),.inr d.fr.size,rfl⟩
   ·simp only[VR];exact .inl ⟨_,cH _ _ _,rfl⟩
  rcases gD d.mem hb with⟨q,U,e',fz,S,g2,g4,g5,g6,g7,g8⟩ | ⟨S,rfl⟩
  ·rcases E with⟨q',J,E⟩ | ⟨J,_⟩
   ·rw[J]at S;cases S;have W:q.fz=false:=by
     cases hc:q.fz with
     | false=>rfl
     | true=>have:=d.fz c q J hc;omega
    have g8:=g8.resolve_left (by rw[W];simp);by_cases G:q.n+m.length<=q.k
    ·have V:=ls (t:=tr) m;have hbound:q.o+q.n*tr.length+m.length*tr.length<=U.size:=by
      have h1:=lz tr.length G;rw[fh]at h1;omega
     have R:∀j,j<(m.flatMap (vals tr)).length->w.cell? ⟨q.r,q.o+q.n*i.size+j,none⟩=U[q.o+q.n*tr.length+j]?:=by
      intro j hj;rw[bB g2,<-k2]
     have hfz:∀j,j<(m.flatMap (vals tr)).length->w.frozen? ⟨q.r,q.o+q.n*i.size+j,none⟩=false:=by
      intro j hj;exact mV g2 g8 (by rw[<-k2];omega)
     have hst:=iW (P:=P) q.r (q.o+q.n*i.size) e' fz (m.flatMap (vals tr)) 0 U w g2 g8 (by rw[V,<-k2];omega) ru;have O:=run_storeCells_cells (P:=P) q.r (q.o+q.n*i.size) (m.flatMap (vals tr)) 0 w (by
      intro j hj;rw[eJ,R j hj];simp;omega) (by intro j hj;rw[eJ];exact hfz j hj) ru
     have hw:w.setCells q.r (q.o+q.n*i.size) (m.flatMap (vals tr))=setObj w q.r (.cells (splA U (q.o+q.n*tr.length) (m.flatMap (vals tr))) e' fz):=by
      rw[hst]at O;simp only[eJ,ug,ie,<-k2]at O;rw[<-k2];exact O.symm
     have f:=l5 (P:=P) (X:=.slice (some ⟨q.r,q.o,none⟩) (q.n+m.length) q.k) (w':=setObj w q.r (.cells (splA U (q.o+q.n*tr.length) (m.flatMap (vals tr))) e' fz)) ho hx ht λty=>by
      rw[E,<-hw];exact run_append_room_src (P:=P) w t t2 ty e i K hi q.r q.o q.n q.k (a.eval y) m.length _ A G (λj hj=>by rw[R j hj];simp;omega) hfz
     have hssz:(splA U (q.o+q.n*tr.length) (m.flatMap (vals tr))).size=U.size:=sc (by rw[V];exact hbound)
     refine pt f (hn _ (upd ι c (some ⟨q.r,q.n+m.length,q.k,q.o,q.fz⟩)) _ _ g (Inv.rebind d hTk B hlo hro hrb (aV _) hcn hd (λb p Z hp=>n9 _ λer=>Z ((d.mem.inj c b q p J hp er).resolve_right λhh=>by rw[W]at hh;cases hh.1).symm)
      (.inl ⟨_,_,cH _ _ _,rV g2,⟨_,e',fz,rfl,by simp[g4],G,by rw[hssz];exact g6,?_,.inr (by rw[hssz];exact g8)⟩⟩) (λp hp=>?_) (by simp[setObj]) ?_ (λ_ _=>D) ?_))
     ·show((splA U (q.o+q.n*tr.length) (m.flatMap (vals tr))).toList.drop q.o).take _=_;rw[yg (by omega),gv,g4,CU,<-g7,g4];have hdl:(U.toList.drop q.o).length=U.size - q.o:=by simp
      rw[fh,<-rU,qG (by rw[gv,dx,hdl,V];omega)];rw[gg (by rw[gv,dx,hdl,V];omega)]
     ·simp only[aq]at hp;subst hp;refine⟨by have:=d.mem.dom c q J;simpa[setObj]using this,λb p' Z hp' er=>Z ((d.mem.inj b c p' q hp' J er).resolve_right λhh=>by rw[W]at hh;cases hh.2),d.new c q J,W⟩
     ·exact d.fr.write ((d.new c q J).imp (λ⟨q0,h,hr⟩=>⟨c,q0,Cm h L,hr⟩) id) _
     ·simp only[VR];exact .inl ⟨_,cH _ _ _,rfl⟩
    ·refine grow (base:=some ⟨q.r,q.o,none⟩) (cp:=q.k) (by rw[E,g4]) ?_ (by omega);have hfl:=ls (t:=tr) l;exact run_firstCells_some w.drew i.size l.length ⟨q.r,q.o,none⟩ l.length q.k _ (by rw[hfl,k2]) (we (off:=0) (w:=w.drew) g2 (m:=l.length*tr.length) (by rw[g7,gk,oM]))
   ·rw[J]at S;cases S
  ·rcases E with⟨q',J,E⟩ | ⟨J,ao,E⟩
   ·rw[J]at S;cases S
   ·by_cases h0:m.length=0
    ·have hm0:m=[]:=sN h0;subst hm0;have f:=l5 (P:=P) (X:=.slice ao 0 0) (w':=w) ho hx ht λty=>by
      rw[E];have:=run_append_nothing (P:=P) w t t2 ty e i K hi ao 0 0 (aV _) (a.eval y) (by simpa using A);simpa using this
     refine pt f (hn _ (upd ι c none) _ _ g (Inv.rebind d hTk B hlo hro hrb (aV _) hcn hd (λ_ _ _ _=>rfl) (.inr ⟨cH _ _ _,tr,rfl⟩) (λq F=>by cases F) (aV _) d.fr (λ_ _=>D) ?_));unfold VR;exact .inr ⟨cH _ _ _,_,rfl⟩
    ·exact grow (base:=ao) (cp:=0) (by rw[E];rfl) (Ds _ _ _) (by simp;omega)
 ·cases g
def A5{α:Type}{E:List Ent}(C:∀x∈E,ib P x){n fr:Nat}{ι0 ι:Inj}{w0:Base}{s:St}{o:Oper}{a:Act}{w:World}(A:Inv n ι0 w0 ι s a w)
  (p:∀b,fr<=b->ι b=none) (H:s.nb<=fr) {k:St->Option α} {I:V->St->Option α} {z:α} (h:Ig P E n fr o s k I=some z)
  {next:Act->World->Prop} {Q:Exit->Act->World->Prop}
  (B:∀s' c i w',k s'=some z->Inv n ι0 w0 c s' i w'->next i w')
  (hp:∀v s' c x i w',I v s'=some z->VR c v x->Inv n ι0 w0 c s' i w'->Q (.panic [{ v:=x,recovered:=false }]) i w'):
  o.wp P a w next Q:=by
 unfold Ig at h;split at h
 ·rename_i J y;split at h
  ·rename_i g d;split at h
   ·rename_i f cap L N;obtain⟨l,K,h⟩:=av h;obtain⟨r,u,R⟩:=rI C h;split at u
    ·cases u
    rename_i t;simp only[aC]at t;obtain⟨m,args,G⟩:=J;simp only at d;subst d;refine wm y A (λb M _=>p b M) L N K t.1 t.2 (R _ λ_ _=>rfl) (λe c i w' _ q=>?_) (λe c x w' O q=>?_)
    ·rw[e]at u;exact B _ c i w' u q
    ·rw[e]at u;exact hp _ _ c x a w' u O q
   ·cases h
  ·rename_i d;obtain⟨m,args,G⟩:=J;simp only at d;subst d;exact C4 y A (p fr (aV _)) H h B
  ·exact AY C A (λb F _=>p b F) h (λs' _ _ _ c i w' D _ j=>B s' c i w' D j) hp
 ·exact AY C A (λb F _=>p b F) h (λs' _ _ _ c i w' D _ j=>B s' c i w' D j) hp
end Go.Abs
