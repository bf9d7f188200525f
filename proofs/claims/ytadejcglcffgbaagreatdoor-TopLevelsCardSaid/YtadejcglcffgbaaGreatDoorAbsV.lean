
import Derived.Test.YtadejcglcffgbaaGreatDoorAbsN
import Derived.Deep.Upon
set_option linter.unusedSimpArgs false
set_option linter.unusedVariables false
set_option linter.defProp false
namespace Go.Abs
variable {P:Program}
def Iz:∀{t:List Lf} {x:den t},∀u∈vals t x,u.oneCell'=true
 | [],_,u,h=>by simp[vals]at h
 | [a],x,u,h=>by
  simp only[vals,lV]at h;subst h;cases a<;>rfl
 | a::b::l,x,u,h=>by
  simp only[vals,cb]at h;rcases h with rfl | h
  ·cases a<;>rfl
  ·exact Iz (t:=b::l) u (by simpa using h)
def wt{t:List Lf}{l:List (den t)}:∀u∈l.flatMap (vals t),u.oneCell'=true:=by
 intro u h;obtain⟨x,_,hx⟩:=Gi.1 h;exact Iz u hx
def np{t a:List Lf}{l:List (den t)}{m:List (den a)}(h:mj t a l=some m):∃e:t=a,m=e▸l:=by
 unfold mj at h;split at h
 ·rename_i e;simp only[aq]at h;exact⟨e,h.symm⟩
 ·cases h
def BA{w:World}{r:Nat}{f:Array Value}{e:TypeId}{fr:Nat×Nat}(h:w.heap[r]?=some (.cells f e fr)){off o:Nat}{news:List Value}{m:Nat}(g:(((f.toList.drop o).take m).drop off).take news.length=news):
  ∀j u,news[j]?=some u->w.cell? ((⟨r,o+off,none⟩:Addr).add j)=some u:=by
 intro j u b;have d:j<news.length:=by
  rcases aJ j news.length with c | c
  ·exact c
  ·rw[f7 c]at b;cases b
 rw[nJ,bg h];have a:=co (λq:List Value=>q[j]?) g;simp only[mW d,lK,b]at a;by_cases i:off+j<m
 ·rw[mW i,lK]at a;simpa[ig]using a
 ·rw[f7 (by rw[dA];omega)]at a;cases a
def Src.empty{w:World}{size:Nat}{F J:TypeId}(C:P.underlying F=some (.slice J))(E:Option Addr):Src P size F (.slice E 0 0) 0 [] w:=by
 cases E with
 | none=>exact Src.ofNil w C 0
 | some a=>exact Src.ofSlice w C a 0 0 [] (by simp) (λj u G=>by simp at G) (λu O=>by cases O)
def JE(size:Nat)(b:Option Addr)(w:World):(Builtin.firstCells size 0 (.slice b 0 0)).run P w=.ok #[] w:=by
 cases b with
 | none=>exact run_firstCells_none _ _ _ _ _
 | some a=>exact run_firstCells_some w size 0 a 0 0 [] (by simp) (λj u c=>by simp at c)
def MW{ι:Inj}{H:List (Nat×Blk)}{nb:Nat}{w:World}(B:WR ι H nb w){b:V}{Y:Value}(f:VR ι b Y){tr:List Lf}{A:TypeId}{m:List (den tr)}(h:srcK P H tr A b=some m)
  {size:Nat} (hs:tr.length=size):Src P size A Y m.length (m.flatMap (vals tr)) w:=by
 unfold srcK at h;split at h
 ·rename_i e g;split at h
  ·simp only[aq]at h;subst h;simp only[VR]at f;subst f;exact Src.ofNil w g 0
  ·rename_i c;split at h
   case h_2=>cases h
   rename_i t l o;obtain⟨rfl,rfl⟩:=np h;simp only[VR]at f;rcases jJ B o with⟨q,E,F,fr,a,r,z,L,G,x,_⟩ | ⟨a,rfl⟩
   ·rcases f with⟨C,d,rfl⟩ | ⟨d,_⟩
    ·rw[d]at a;cases a;rw[<-z];refine Src.ofSlice w g _ _ _ _ (by rw[oG,hs]) (BA (off:=0) r (m:=m.length*t.length) ?_) wt;rw[x,cS,oV]
    ·rw[d]at a;cases a
   ·rcases f with⟨q,d,_⟩ | ⟨d,p,rfl⟩
    ·rw[d]at a;cases a
    ·exact Src.empty g p
  ·rename_i N c j n _;split at h
   case h_2=>cases h
   rename_i t l o;split at h
   case h_2=>cases h
   rename_i v;have v:=bB v;obtain⟨k,h⟩:=dU h;have k:=aI k;obtain⟨rfl,rfl⟩:=np h;have y:((l.drop j).take n).length=n:=by rw[dA,ci];omega
   simp only[VR]at f;rw[y];rcases f with⟨q,cp,off,d,M,D,rfl⟩ | ⟨d,⟨rfl,_⟩,p,rfl⟩
   ·rcases jJ B o with⟨C,E,F,fr,a,r,z,L,G,x,_⟩ | ⟨a,rfl⟩
    ·rw[d]at a;cases a;refine Src.ofSlice w g _ _ _ _ (by rw[oG,y,hs]) ?_ wt;by_cases s:0<n
     ·rw[D s,v];refine BA r (m:=l.length*t.length) ?_;rw[x,<-xd,oG,y,<-xZ]
     ·have s:n=0:=by omega
      subst s;intro j u K;simp at K
    ·rw[d]at a;cases a
   ·simp only[mV,List.flatMap_nil];exact Src.empty g p
  ·cases h
 ·rename_i g;split at h
  case h_2=>cases h
  rename_i l;obtain⟨rfl,rfl⟩:=np h;simp only[VR]at f;subst f;simp only[aG,cE]at hs;subst hs;have:=Src.ofString (P:=P) w g ⟨l.toArray⟩;have J:byteCells ⟨l.toArray⟩=(l.map λb=>((b.toNat:Nat):Int)).flatMap (vals [.i .u8]):=by
   rw[sd];simp[byteCells]
  have I:(ByteArray.mk l.toArray).size=(l.map λb=>((b.toNat:Nat):Int)).length:=by rw[tt];rfl
  rw[J,I]at this;exact this
 ·cases h
def Inv.rebind {n:Nat} {ι0 ι:Inj} {w0:Base} {w w':World} {s s1:St} {a:Act} {c O:Nat} {ρ:Option Rf} {blk:Blk} {v:V} {x:Value} {dst:Option Nat} (J:Inv n ι0 w0 ι s a w)
  (hT:TR (upd ι c ρ) s1.T a.tmps) (hH:∀b y,b≠c->look s1.H b=some y->y≠.dead->∃y0,look s.H b=some y0/\y0≠.dead/\(∀q o,BR ι q y0 o->BR (upd ι c ρ) q y o)/\∀t,y0=.rows t []->y=.rows t [])
  (hlo:s1.lo=s.lo) (U:s1.ro=s.ro) (hrb:s1.rb=s.rb) (hnb:s.nb<=O) (hc:c<O) (hd:vi n dst=true)
  (h1:∀b q,b≠c->ι b=some (some q)->w'.heap[q.r]?=w.heap[q.r]?) (h2:BW (upd ι c ρ) w' c blk) (h3:∀q,ρ=some q->q.r<w'.heap.size/\(∀b Z,b≠c->ι b=some (some Z)->Z.r≠q.r)/\
   ((∃q0,ι0 c=some (some q0)/\q0.r=q.r)\/w0.w.heap.size<=q.r)/\q.fz=false) (h4:w.heap.size<=w'.heap.size) (h5:Fr (roI ι0 s.ro) w0.w w') (h6:∀q,ι0 c=some q->s.rb<=c)
  (hv:VR (upd ι c ρ) v x):Inv n ι0 w0 (upd ι c ρ) (s1.app dst (some v) [(c,blk)] O) (a.put dst x) w':=by
 have C:∀b,b≠c->upd ι c ρ b=ι b:=λb E=>by simp [upd,E]
 have F:upd ι c ρ c=some ρ:=by simp [upd]
 refine ⟨by rw [nB];exact J.size,by rw [jB];exact J.defers,hT.app J.size hd (λu hu=>by cases hu;exact hv),⟨λb Y q Z e1 W e3=>?_,λb q e=>?_,λb q e=>?_,λb y hl X=>?_⟩,λb q e=>?_,λb q e=>?_,?_,?_,λb q e hq=>?_,by simp only [St.app,U];exact J.gl⟩
 ·by_cases E:b=c
  ·by_cases G:Y=c
   ·exact .inl (by rw [E,G])
   ·subst E;rw [F] at e1;rw [C Y G] at W;simp only [aq] at e1;exact absurd e3.symm ((h3 q e1).2.1 Y Z G W)
  ·rw [C b E] at e1;by_cases G:Y=c
   ·subst G;rw [F] at W;simp only [aq] at W;exact absurd e3 ((h3 Z W).2.1 b q E e1)
   ·rw [C Y G] at W;exact J.mem.inj b Y q Z e1 W e3
 ·by_cases E:b=c
  ·rw [E];exact hc
  ·rw [C b E] at e;have:=J.mem.low b q e;exact oQ this hnb
 ·by_cases E:b=c
  ·subst E;rw [F] at e;simp only [aq] at e;exact (h3 q e).1
  ·rw [C b E] at e;exact oQ (J.mem.dom b q e) h4
 ·simp only [St.app,fi,dO,aS] at hl;split at hl
  ·rename_i e;subst e;simp only [aq] at hl;subst hl;exact h2
  ·rename_i Q;obtain ⟨y0,g1,g2,g3,g4⟩:=hH b y (λe=>Q e.symm) hl X;exact (J.mem.blk b y0 g1 g2).map (C b (λe=>Q e.symm)) (λq hq=>h1 b q (λe=>Q e.symm) hq) g3 g4
 ·by_cases E:b=c
  ·subst E;exact .inr (by simp only [St.app,hrb];exact h6 q e)
  ·rw [C b E];simp only [St.app,hrb];exact J.ext b q e
 ·by_cases E:b=c
  ·subst E;rw [F] at e;simp only [aq] at e;exact (h3 q e).2.2.1
  ·rw [C b E] at e;exact J.new b q e
 ·simp only [St.app,U];exact h5
 ·simp only [St.app,hlo];exact J.low
 ·simp only [St.app,U];by_cases E:b=c
  ·subst E;rw [F] at e;simp only [aq] at e;have:=(h3 q e).2.2.2;rw [this] at hq;cases hq
  ·rw [C b E] at e;exact J.fz b q e hq
def PG{b c:Nat}(h:isIn [c] b=false):b≠c:=by
 rintro rfl;simp[isIn]at h
def zn{ι:Inj}{c:Nat}{ρ:Option Rf}:∀b,isIn [c] b=false->∀q,ι b=some q->upd ι c ρ b=some q:=by
 intro b a q d;have:=PG a;simp[upd,this,d]
def pD{o:Oper}{a:Act}{w:World}{args:Array Operand}{b:Array TypeId}{x y:Operand}{t c:TypeId}{X:Value}{w':World}(i:o.op=.call ⟨.builtin .append,args,b⟩)(hx:args.toList=[x,y])(f:b.toList=[t,c])
  (h:∀e,(Builtin.append_ #[t,c] e #[a.eval x,a.eval y]).run P w=.ok X w'):(execOp a.eval o).run P w=.ok (.value X) w':=by
 have g:args.map a.eval=#[a.eval x,a.eval y]:=by apply lq;simp[hx]
 have d:b=#[t,c]:=by apply lq;simp[f]
 simp only[execOp,i,resolve,g,d,az,aD,aA,invoke,builtin,h]
def uh{o:Oper}{a:Act}{w w':World}{X:Value}(h:(execOp a.eval o).run P w=.ok (.value X) w'){next:Act->World->Prop}{Q:Exit->Act->World->Prop}(b:next (a.put o.dst X) w'):o.wp P a w next Q:=by
 unfold Oper.wp;rw[h];exact b
def KX{a cap bytes:Nat}(b:a<=bJ)(g:cap<a)(e:bytes<=1048576):Builtin.nextslicecap a cap*bytes<=281474976710656:=by
 have b:a<=67108864:=b;have key:Builtin.nextslicecap a cap<=2*a+768:=by
  have f:∀(m c:Nat),c<=2*a+768->Builtin.growBy a m c<=2*a+768:=by
   intro m
   induction m with
   | zero=>intro c hc;exact hc
   | succ m ih=>
    intro c hc;unfold Builtin.growBy;split
    ·exact hc
    ·exact ih _ (by omega)
  unfold Builtin.nextslicecap;split
  ·omega
  ·split
   ·omega
   ·exact f 4 cap (by omega)
 have d:=xk (show Builtin.nextslicecap a cap<=134218496 by omega) e;exact qZ d (by decide)
def Iw{ι:Inj}{tr:List Lf}{l m:List (den tr)}{e:TypeId}{zc:Array Value}{cap r:Nat}(f:zc.size=tr.length)(a:l.length+m.length<=cap):
  BR ι (Rf.of r (l.length+m.length) cap) (.rows tr (l++m)) (.cells ((l.flatMap (vals tr)++m.flatMap (vals tr)).toArray++Builtin.zeroCells zc (cap - (l.length+m.length))) e):=by
 have c:=oG (t:=tr) l;have d:=oG (t:=tr) m;have b:(Builtin.zeroCells zc (cap - (l.length+m.length))).size=(cap - (l.length+m.length))*tr.length:=by simp[Builtin.zeroCells,f]
 refine⟨_,e,(0,0),rfl,by simp,a,?_,?_,.inr (tD _)⟩
 ·simp only[Array.size_append,b,wU,aZ,c,d];rw[<-ia,<-ia,cK];exact o7 _ (by omega)
 ·rw[yo,aZ,ia,Ix];have:l.length*tr.length+m.length*tr.length=(l.flatMap (vals tr)++m.flatMap (vals tr)).length:=by rw[aZ,c,d]
  rw[this];exact GE
def zC{tr:List Lf}{e:TypeId}(h:PT P tr e=true):∃i z,P.info? e=some i/\i.zero=some z/\z.cells.size=tr.length/\tr.length=i.size/\0<tr.length/\i.bytes<=1048576:=by
 unfold PT at h;split at h
 ·rename_i i hi;split at h
  ·rename_i z d;simp only[aB,js]at h;obtain⟨g,f,a,c⟩:=h;have b:i.size=P.cellsOf e:=by unfold Program.cellsOf;rw[hi];rfl
   have a:0<P.cellsOf e:=aI a;exact⟨i,z,hi,d,by omega,by omega,by omega,aI c⟩
  ·cases h
 ·cases h
def J2{α:Type}{n fr:Nat}{ι0 ι:Inj}{w0:Base}{s:St}{o:Oper}{a:Act}{w:World}{args:Array Operand}{tys:Array TypeId}(ho:o.op=.call ⟨.builtin .append,args,tys⟩)(d:Inv n ι0 w0 ι s a w)
  (W:ι fr=none) (hge:s.nb<=fr) {k:St->Option α} {z:α} (h:Gk P n fr o.dst args.toList tys.toList s k=some z)
  {next:Act->World->Prop} {Q:Exit->Act->World->Prop} (hn:∀s' ι' a' w',k s'=some z->Inv n ι0 w0 ι' s' a' w'->next a' w'):o.wp P a w next Q:=by
 unfold Gk at h;split at h
 case h_2=>cases h
 rename_i x y t t2 hd hx ht;split at h
 case h_2=>cases h
 rename_i e M;obtain⟨u,hu,S⟩:=ax h;obtain⟨v,hv,g⟩:=ax S;clear h S;have F:=bz d.tmps hu;have hY:=bz d.tmps hv;have hfr0:∀q,ι0 fr=some q->s.rb<=fr:=by
  intro q E;rcases d.ext fr q E with h | h
  ·rw[W]at h;cases h
  ·exact h
 split at g
 ·
  simp only[VR]at F;split at g
  case h_2=>cases g
  rename_i tr _;split at g
  case h_2=>cases g
  rename_i I;obtain⟨i,zv,hi,hz,k1,k2,k3,k4⟩:=zC I;obtain⟨m,hm,g⟩:=ax g;obtain⟨C,g⟩:=dU g;have C:=aI C;have hle':m.length<=67108864:=C;have A:=MW d.mem hY hm k2;have hTm:=d.tmps.mono (qA (r:=none) W);have B:∀{ρ:Option Rf} b y,b≠fr->look s.H b=some y->y≠.dead->∃R,look s.H b=some R/\R≠.dead/\(∀q o,BR ι q R o->BR (upd ι fr ρ) q y o)/\∀t,R=.rows t []->y=.rows t []:=
   λb y _ hl hdd=>⟨y,hl,hdd,λq o hb=>BR.mono (qA W) hb,λ_ h=>h⟩
  by_cases h0:m.length=0
  ·have hm0:m=[]:=sZ h0;subst hm0;have f:=pD (P:=P) (X:=.slice none 0 0) (w':=w) ho hx ht λV=>by
    rw[F];have:=run_append_nothing (P:=P) w t t2 V e i M hi none 0 0 (aU _) (a.eval y) (by simpa using A);simpa using this
   refine uh f (hn _ (upd ι fr none) _ _ g (Inv.rebind d hTm B rfl rfl rfl (Gw _ _) (by omega) hd (λ_ _ _ _=>rfl) (.inr ⟨dJ _ _ _,tr,rfl⟩) (λq E=>by cases E) (aU _) d.fr hfr0 ?_));unfold VR;exact .inr ⟨dJ _ _ _,_,rfl⟩
  ·have L:m.length<=grownCap w m.length 0 e:=by simp only[grownCap,Question.cut];omega
   have f:=pD (P:=P) (X:=.slice (some ⟨w.heap.size,0,none⟩) m.length (grownCap w m.length 0 e))
     (w':=w.drew.alloc (.cells ((m.flatMap (vals tr)).toArray++Builtin.zeroCells zv.cells (grownCap w m.length 0 e - m.length)) e)) ho hx ht λV=>by
    rw[F];have:=run_append_grow_src (P:=P) w t t2 V e i zv M hi hz none 0 0 [] (run_firstCells_none _ _ _ _ _) (a.eval y) m.length _ A (by omega) (by omega) (KX (by simpa using C) (by omega) k4);simpa using this
   refine uh f (hn _ (upd ι fr (some (Rf.of w.heap.size (m.length) (grownCap w m.length 0 e)))) _ _ g (Inv.rebind d (d.tmps.mono (qA W)) B rfl rfl rfl (Gw _ _) (by omega) hd (λb q hb E=>?_)
    (.inl ⟨_,_,dJ _ _ _,jV _ _,?_⟩) (λq E=>?_) (by show w.heap.size<=(w.heap.push _).size;simp) (by exact(d.fr.draws (w.drawn+1)).alloc _) hfr0 ?_))
   ·exact jY _ _ (Cm (d.mem.dom b q E))
   ·have:=Iw (ι:=upd ι fr (some (Rf.of w.heap.size (m.length) (grownCap w m.length 0 e)))) (tr:=tr) (l:=[]) (m:=m) (e:=e) (zc:=zv.cells) (cap:=grownCap w m.length 0 e) (r:=w.heap.size) k1 (by simpa using L);simpa using this
   ·simp only[aq]at E;subst E;refine⟨by show w.heap.size<(w.heap.push _).size;simp,λb q' _ hq'=>Cm (d.mem.dom b q' hq'),.inr d.fr.size,rfl⟩
   ·simp only[VR];exact .inl ⟨_,dJ _ _ _,rfl⟩
 ·rename_i c;simp only[VR]at F;split at g
  case h_2=>cases g
  rename_i tr l hb;split at g
  case h_2=>cases g
  rename_i I;simp only[aB]at I;obtain⟨I,N,D⟩:=I;have N:=aI N;have D:=aI D;obtain⟨i,zv,hi,hz,k1,k2,k3,k4⟩:=zC I;obtain⟨m,hm,g⟩:=ax g;obtain⟨C,g⟩:=dU g;have C:=aI C;have hle':l.length+m.length<=67108864:=C;have A:=MW d.mem hY hm k2;have hTk:∀{ρ:Option Rf},TR (upd ι c ρ) (s.kill [c]).T a.tmps:=by
   intro ρ;rw[St.kill_eq];exact d.tmps.kill zn
  have B:∀{ρ:Option Rf} b y,b≠c->look (s.kill [c]).H b=some y->y≠.dead->∃R,look s.H b=some R/\R≠.dead/\(∀q o,BR ι q R o->BR (upd ι c ρ) q y o)/\∀t,R=.rows t []->y=.rows t []:=by
   intro ρ b y hbc hl hdd;rw[St.kill_eq]at hl;simp only[vt]at hl;cases hy:look s.H b with
   | none=>rw[hy]at hl;cases hl
   | some R=>
    rw[hy]at hl;simp only[fh,aq]at hl;subst hl;exact⟨R,rfl,by rintro rfl;exact hdd rfl,λq o hbr=>BR.kill zn hbr,by rintro t rfl;rfl⟩
  have hlo:(s.kill [c]).lo=s.lo:=by rw[St.kill_eq]
  have hro:(s.kill [c]).ro=s.ro:=by rw[St.kill_eq]
  have hrb:(s.kill [c]).rb=s.rb:=by rw[St.kill_eq]
  have hcn:c<s.nb:=by
   rcases d.mem.blk c _ hb (by simp)with⟨q,_,h1,_⟩ | ⟨h1,_⟩
   ·exact d.mem.low c _ h1
   ·exact d.mem.low c _ h1
  have grow:∀{base:Option Addr} {cp:Nat},a.eval x=.slice base l.length cp->(Builtin.firstCells i.size l.length (.slice base l.length cp)).run P w.drew=.ok (l.flatMap (vals tr)).toArray w.drew->cp<l.length+m.length->o.wp P a w next Q:=by
   intro base cp F hold hlt;have L:l.length+m.length<=grownCap w (l.length+m.length) cp e:=by simp only[grownCap,Question.cut];omega
   have f:=pD (P:=P) (X:=.slice (some ⟨w.heap.size,0,none⟩) (l.length+m.length) (grownCap w (l.length+m.length) cp e))
     (w':=w.drew.alloc (.cells ((l.flatMap (vals tr)++m.flatMap (vals tr)).toArray++Builtin.zeroCells zv.cells (grownCap w (l.length+m.length) cp e - (l.length+m.length))) e)) ho hx ht λV=>by
    rw[F];exact run_append_grow_src (P:=P) w t t2 V e i zv M hi hz base l.length cp _ hold (a.eval y) m.length _ A hlt (by omega) (KX C hlt k4)
   refine uh f (hn _ (upd ι c (some (Rf.of w.heap.size (l.length+m.length) (grownCap w (l.length+m.length) cp e)))) _ _ g (Inv.rebind d hTk B hlo hro hrb (aU _) hcn hd (λb q hb E=>?_)
    (.inl ⟨_,_,dJ _ _ _,jV _ _,Iw k1 L⟩) (λq E=>?_) (by show w.heap.size<=(w.heap.push _).size;simp) (by exact(d.fr.draws (w.drawn+1)).alloc _) (λ_ _=>D) ?_))
   ·exact jY _ _ (Cm (d.mem.dom b q E))
   ·simp only[aq]at E;subst E;refine⟨by show w.heap.size<(w.heap.push _).size;simp,λb q' _ hq'=>Cm (d.mem.dom b q' hq'),.inr d.fr.size,rfl⟩
   ·simp only[VR];exact .inl ⟨_,dJ _ _ _,rfl⟩
  rcases jJ d.mem hb with⟨q,U,e',fz,S,g2,g4,g5,g6,g7,g8⟩ | ⟨S,rfl⟩
  ·rcases F with⟨q',J,F⟩ | ⟨J,_⟩
   ·rw[J]at S;cases S;have hqz:q.fz=false:=by
     cases hc:q.fz with
     | false=>rfl
     | true=>have:=d.fz c q J hc;omega
    have g8:=g8.resolve_left (by rw[hqz];simp);by_cases G:q.n+m.length<=q.k
    ·have Z:=oG (t:=tr) m;have Y:q.o+q.n*tr.length+m.length*tr.length<=U.size:=by
      have h1:=o7 tr.length G;rw[ia]at h1;omega
     have O:∀j,j<(m.flatMap (vals tr)).length->w.cell? ⟨q.r,q.o+q.n*i.size+j,none⟩=U[q.o+q.n*tr.length+j]?:=by
      intro j hj;rw[bg g2,<-k2]
     have hfz:∀j,j<(m.flatMap (vals tr)).length->w.frozen? ⟨q.r,q.o+q.n*i.size+j,none⟩=false:=by
      intro j hj;exact rz g2 g8 (by rw[<-k2];omega)
     have hst:=li (P:=P) q.r (q.o+q.n*i.size) e' fz (m.flatMap (vals tr)) 0 U w g2 g8 (by rw[Z,<-k2];omega) wt;have K:=run_storeCells_cells (P:=P) q.r (q.o+q.n*i.size) (m.flatMap (vals tr)) 0 w (by
      intro j hj;rw[dK,O j hj];simp;omega) (by intro j hj;rw[dK];exact hfz j hj) wt
     have hw:w.setCells q.r (q.o+q.n*i.size) (m.flatMap (vals tr))=setObj w q.r (.cells (splA U (q.o+q.n*tr.length) (m.flatMap (vals tr))) e' fz):=by
      rw[hst]at K;simp only[dK,yg,kz,<-k2]at K;rw[<-k2];exact K.symm
     have f:=pD (P:=P) (X:=.slice (some ⟨q.r,q.o,none⟩) (q.n+m.length) q.k) (w':=setObj w q.r (.cells (splA U (q.o+q.n*tr.length) (m.flatMap (vals tr))) e' fz)) ho hx ht λV=>by
      rw[F,<-hw];exact run_append_room_src (P:=P) w t t2 V e i M hi q.r q.o q.n q.k (a.eval y) m.length _ A G (λj hj=>by rw[O j hj];simp;omega) hfz
     have hssz:(splA U (q.o+q.n*tr.length) (m.flatMap (vals tr))).size=U.size:=xg (by rw[Z];exact Y)
     refine uh f (hn _ (upd ι c (some ⟨q.r,q.n+m.length,q.k,q.o,q.fz⟩)) _ _ g (Inv.rebind d hTk B hlo hro hrb (aU _) hcn hd (λb p hbc hp=>s7 _ λer=>hbc ((d.mem.inj c b q p J hp er).resolve_right λhh=>by rw[hqz]at hh;cases hh.1).symm)
      (.inl ⟨_,_,dJ _ _ _,xY g2,⟨_,e',fz,rfl,by simp[g4],G,by rw[hssz];exact g6,?_,.inr (by rw[hssz];exact g8)⟩⟩) (λp hp=>?_) (by simp[setObj]) ?_ (λ_ _=>D) ?_))
     ·show((splA U (q.o+q.n*tr.length) (m.flatMap (vals tr))).toList.drop q.o).take _=_;rw[Ep (by omega),aZ,g4,Ix,<-g7,g4];have hdl:(U.toList.drop q.o).length=U.size - q.o:=by simp
      rw[ia,<-f8,uS (by rw[aZ,dA,hdl,Z];omega)];rw[jw (by rw[aZ,dA,hdl,Z];omega)]
     ·simp only[aq]at hp;subst hp;refine⟨by have:=d.mem.dom c q J;simpa[setObj]using this,λb p' hbc hp' er=>hbc ((d.mem.inj b c p' q hp' J er).resolve_right λhh=>by rw[hqz]at hh;cases hh.2),d.new c q J,hqz⟩
     ·exact d.fr.write ((d.new c q J).imp (λ⟨q0,h,hr⟩=>⟨c,q0,Ds h N,hr⟩) id) _
     ·simp only[VR];exact .inl ⟨_,dJ _ _ _,rfl⟩
    ·refine grow (base:=some ⟨q.r,q.o,none⟩) (cp:=q.k) (by rw[F,g4]) ?_ (by omega);have hfl:=oG (t:=tr) l;exact run_firstCells_some w.drew i.size l.length ⟨q.r,q.o,none⟩ l.length q.k _ (by rw[hfl,k2]) (BA (off:=0) (w:=w.drew) g2 (m:=l.length*tr.length) (by rw[g7,cS,oV]))
   ·rw[J]at S;cases S
  ·rcases F with⟨q',J,F⟩ | ⟨J,ao,F⟩
   ·rw[J]at S;cases S
   ·by_cases h0:m.length=0
    ·have hm0:m=[]:=sZ h0;subst hm0;have f:=pD (P:=P) (X:=.slice ao 0 0) (w':=w) ho hx ht λV=>by
      rw[F];have:=run_append_nothing (P:=P) w t t2 V e i M hi ao 0 0 (aU _) (a.eval y) (by simpa using A);simpa using this
     refine uh f (hn _ (upd ι c none) _ _ g (Inv.rebind d hTk B hlo hro hrb (aU _) hcn hd (λ_ _ _ _=>rfl) (.inr ⟨dJ _ _ _,tr,rfl⟩) (λq E=>by cases E) (aU _) d.fr (λ_ _=>D) ?_));unfold VR;exact .inr ⟨dJ _ _ _,_,rfl⟩
    ·exact grow (base:=ao) (cp:=0) (by rw[F];rfl) (JE _ _ _) (by simp;omega)
 ·cases g
def B5{α:Type}{E:List Ent}(F:∀x∈E,fC P x){n fr:Nat}{ι0 ι:Inj}{w0:Base}{s:St}{o:Oper}{a:Act}{w:World}(B:Inv n ι0 w0 ι s a w)
  (m:∀b,fr<=b->ι b=none) (H:s.nb<=fr) {k:St->Option α} {I:V->St->Option α} {z:α} (h:LF P E n fr o s k I=some z)
  {next:Act->World->Prop} {Q:Exit->Act->World->Prop}
  (A:∀s' c j w',k s'=some z->Inv n ι0 w0 c s' j w'->next j w')
  (hp:∀v s' c x j w',I v s'=some z->VR c v x->Inv n ι0 w0 c s' j w'->Q (.panic [{ v:=x,recovered:=false }]) j w'):
  o.wp P a w next Q:=by
 unfold LF at h;split at h
 ·rename_i J y;split at h
  ·rename_i g d;split at h
   ·rename_i f cap K L;obtain⟨l,R,h⟩:=ax h;obtain⟨r,u,O⟩:=wy F h;split at u
    ·cases u
    rename_i q;simp only[aB]at q;obtain⟨p,args,D⟩:=J;simp only at d;subst d;refine AN y B (λb N _=>m b N) K L R q.1 q.2 (O _ λ_ _=>rfl) (λe c j w' _ t=>?_) (λe c x w' M t=>?_)
    ·rw[e]at u;exact A _ c j w' u t
    ·rw[e]at u;exact hp _ _ c x a w' u M t
   ·cases h
  ·rename_i d;obtain⟨p,args,D⟩:=J;simp only at d;subst d;exact J2 y B (m fr (aU _)) H h A
  ·exact HZ F B (λb C _=>m b C) h (λs' _ _ _ c j w' G _ i=>A s' c j w' G i) hp
 ·exact HZ F B (λb C _=>m b C) h (λs' _ _ _ c j w' G _ i=>A s' c j w' G i) hp
end Go.Abs
