
import Derived.Test.YtjkmipianfkncaaGreatDoorAbsN
import Derived.Deep.Upon
set_option linter.unusedSimpArgs false
set_option linter.unusedVariables false
set_option linter.defProp false
namespace Go.Abs
variable {P:Program}
def EO:∀{t:List Lf} {x:den t},∀u∈vals t x,u.oneCell'=true
 | [],_,u,h=>by simp[vals]at h
 | [a],x,u,h=>by
  simp only[vals,ul]at h;subst h;cases a<;>rfl
 | a::b::l,x,u,h=>by
  simp only[vals,cT]at h;rcases h with rfl | h
  ·cases a<;>rfl
  ·exact EO (t:=b::l) u (by simpa using h)
def uU{t:List Lf}{l:List (den t)}:∀u∈l.flatMap (vals t),u.oneCell'=true:=by
 intro u h;obtain⟨x,_,hx⟩:=List.mem_flatMap.1 h;exact EO u hx
def ou{t a:List Lf}{l:List (den t)}{m:List (den a)}(h:mh t a l=some m):∃e:t=a,m=e▸l:=by
 unfold mh at h;split at h
 ·rename_i e;simp only[ar]at h;exact⟨e,h.symm⟩
 ·cases h
def yT{w:World}{r:Nat}{f:Array Value}{e:TypeId}{fr:Nat×Nat}(h:w.heap[r]?=some (.cells f e fr)){off o:Nat}{news:List Value}{m:Nat}(i:(((f.toList.drop o).take m).drop off).take news.length=news):
  ∀j u,news[j]?=some u->w.cell? ((⟨r,o+off,none⟩:Addr).add j)=some u:=by
 intro j u b;have d:j<news.length:=by
  rcases aF j news.length with c | c
  ·exact c
  ·rw[gC c]at b;cases b
 rw[mu,bC h];have a:=ck (λq:List Value=>q[j]?) i;simp only[pS d,mX,b]at a;by_cases g:off+j<m
 ·rw[pS g,mX]at a;simpa[gN]using a
 ·rw[gC (by rw[de];omega)]at a;cases a
def Src.empty{w:World}{size:Nat}{E J:TypeId}(hd:P.underlying E=some (.slice J))(C:Option Addr):Src P size E (.slice C 0 0) 0 [] w:=by
 cases C with
 | none=>exact Src.ofNil w hd 0
 | some a=>exact Src.ofSlice w hd a 0 0 [] (by simp) (λj u F=>by simp at F) (λu G=>by cases G)
def Hk(size:Nat)(b:Option Addr)(w:World):(Builtin.firstCells size 0 (.slice b 0 0)).run P w=.ok #[] w:=by
 cases b with
 | none=>exact run_firstCells_none _ _ _ _ _
 | some a=>exact run_firstCells_some w size 0 a 0 0 [] (by simp) (λj u c=>by simp at c)
def Ly{ι:Inj}{H:List (Nat×Blk)}{nb:Nat}{w:World}(y:WR ι H nb w){b:V}{Y:Value}(f:VR ι b Y){tr:List Lf}{A:TypeId}{m:List (den tr)}(h:srcK P H tr A b=some m)
  {size:Nat} (hs:tr.length=size):Src P size A Y m.length (m.flatMap (vals tr)) w:=by
 unfold srcK at h;split at h
 ·rename_i e hd;split at h
  ·simp only[ar]at h;subst h;simp only[VR]at f;subst f;exact Src.ofNil w hd 0
  ·rename_i c;split at h
   case h_2=>cases h
   rename_i t l s;obtain⟨rfl,rfl⟩:=ou h;simp only[VR]at f;rcases jc y s with⟨q,F,I,fr,a,o,z,K,B,k,_⟩ | ⟨a,rfl⟩
   ·rcases f with⟨J,d,rfl⟩ | ⟨d,_⟩
    ·rw[d]at a;cases a;rw[<-z];refine Src.ofSlice w hd _ _ _ _ (by rw[ng,hs]) (yT (off:=0) o (m:=m.length*t.length) ?_) uU;rw[k,cg,ox]
    ·rw[d]at a;cases a
   ·rcases f with⟨q,d,_⟩ | ⟨d,x,rfl⟩
    ·rw[d]at a;cases a
    ·exact Src.empty hd x
  ·rename_i L c j n _;split at h
   case h_2=>cases h
   rename_i t l s;split at h
   case h_2=>cases h
   rename_i p;have p:=bD p;obtain⟨g,h⟩:=eH h;have g:=aG g;obtain⟨rfl,rfl⟩:=ou h;have r:((l.drop j).take n).length=n:=by rw[de,bj];omega
   simp only[VR]at f;rw[r];rcases f with⟨q,cp,off,d,M,E,rfl⟩ | ⟨d,⟨rfl,_⟩,x,rfl⟩
   ·rcases jc y s with⟨J,F,I,fr,a,o,z,K,B,k,_⟩ | ⟨a,rfl⟩
    ·rw[d]at a;cases a;refine Src.ofSlice w hd _ _ _ _ (by rw[ng,r,hs]) ?_ uU;by_cases v:0<n
     ·rw[E v,p];refine yT o (m:=l.length*t.length) ?_;rw[k,<-wI,ng,r,<-wc]
     ·have v:n=0:=by omega
      subst v;intro j u C;simp at C
    ·rw[d]at a;cases a
   ·simp only[nA,List.flatMap_nil];exact Src.empty hd x
  ·cases h
 ·rename_i hd;split at h
  case h_2=>cases h
  rename_i l;obtain⟨rfl,rfl⟩:=ou h;simp only[VR]at f;subst f;simp only[aP,iy]at hs;subst hs;have:=Src.ofString (P:=P) w hd ⟨l.toArray⟩;have G:byteCells ⟨l.toArray⟩=(l.map λb=>((b.toNat:Nat):Int)).flatMap (vals [.i .u8]):=by
   rw[qK];simp[byteCells]
  have D:(ByteArray.mk l.toArray).size=(l.map λb=>((b.toNat:Nat):Int)).length:=by rw[ED];rfl
  rw[G,D]at this;exact this
 ·cases h
def Inv.rebind {n:Nat} {ι0 ι:Inj} {w0:Base} {w w':World} {s s1:St} {a:Act} {c U:Nat} {ρ:Option Rf} {blk:Blk} {v:V} {x:Value} {dst:Option Nat} (J:Inv n ι0 w0 ι s a w)
  (hT:TR (upd ι c ρ) s1.T a.tmps) (hH:∀b y,b≠c->look s1.H b=some y->y≠.dead->∃Y,look s.H b=some Y/\Y≠.dead/\(∀q o,BR ι q Y o->BR (upd ι c ρ) q y o)/\∀t,Y=.rows t []->y=.rows t [])
  (hlo:s1.lo=s.lo) (O:s1.ro=s.ro) (hrb:s1.rb=s.rb) (hnb:s.nb<=U) (hc:c<U) (hd:tZ n dst=true)
  (h1:∀b q,b≠c->ι b=some (some q)->w'.heap[q.r]?=w.heap[q.r]?) (h2:BW (upd ι c ρ) w' c blk) (h3:∀q,ρ=some q->q.r<w'.heap.size/\(∀b q',b≠c->ι b=some (some q')->q'.r≠q.r)/\
   ((∃q0,ι0 c=some (some q0)/\q0.r=q.r)\/w0.w.heap.size<=q.r)/\q.fz=false) (h4:w.heap.size<=w'.heap.size) (h5:Fr (roI ι0 s.ro) w0.w w') (h6:∀q,ι0 c=some q->s.rb<=c)
  (hv:VR (upd ι c ρ) v x):Inv n ι0 w0 (upd ι c ρ) (s1.app dst (some v) [(c,blk)] U) (a.put dst x) w':=by
 have C:∀b,b≠c->upd ι c ρ b=ι b:=λb E=>by simp [upd,E]
 have F:upd ι c ρ c=some ρ:=by simp [upd]
 refine ⟨by rw [mq];exact J.size,by rw [i6];exact J.defers,hT.app J.size hd (λu hu=>by cases hu;exact hv),⟨λb b' q q' Z W e3=>?_,λb q e=>?_,λb q e=>?_,λb y hl Q=>?_⟩,λb q e=>?_,λb q e=>?_,?_,?_,λb q e hq=>?_,by simp only [St.app,O];exact J.gl⟩
 ·by_cases E:b=c
  ·by_cases G:b'=c
   ·exact .inl (by rw [E,G])
   ·subst E;rw [F] at Z;rw [C b' G] at W;simp only [ar] at Z;exact absurd e3.symm ((h3 q Z).2.1 b' q' G W)
  ·rw [C b E] at Z;by_cases G:b'=c
   ·subst G;rw [F] at W;simp only [ar] at W;exact absurd e3 ((h3 q' W).2.1 b q E Z)
   ·rw [C b' G] at W;exact J.mem.inj b b' q q' Z W e3
 ·by_cases E:b=c
  ·rw [E];exact hc
  ·rw [C b E] at e;have:=J.mem.low b q e;exact pK this hnb
 ·by_cases E:b=c
  ·subst E;rw [F] at e;simp only [ar] at e;exact (h3 q e).1
  ·rw [C b E] at e;exact pK (J.mem.dom b q e) h4
 ·simp only [St.app,dq,dW,aR] at hl;split at hl
  ·rename_i e;subst e;simp only [ar] at hl;subst hl;exact h2
  ·rename_i X;obtain ⟨Y,g1,g2,g3,g4⟩:=hH b y (λe=>X e.symm) hl Q;exact (J.mem.blk b Y g1 g2).map (C b (λe=>X e.symm)) (λq hq=>h1 b q (λe=>X e.symm) hq) g3 g4
 ·by_cases E:b=c
  ·subst E;exact .inr (by simp only [St.app,hrb];exact h6 q e)
  ·rw [C b E];simp only [St.app,hrb];exact J.ext b q e
 ·by_cases E:b=c
  ·subst E;rw [F] at e;simp only [ar] at e;exact (h3 q e).2.2.1
  ·rw [C b E] at e;exact J.new b q e
 ·simp only [St.app,O];exact h5
 ·simp only [St.app,hlo];exact J.low
 ·simp only [St.app,O];by_cases E:b=c
  ·subst E;rw [F] at e;simp only [ar] at e;have:=(h3 q e).2.2.2;rw [this] at hq;cases hq
  ·rw [C b E] at e;exact J.fz b q e hq
def Nr{b c:Nat}(h:isIn [c] b=false):b≠c:=by
 rintro rfl;simp[isIn]at h
def xL{ι:Inj}{c:Nat}{ρ:Option Rf}:∀b,isIn [c] b=false->∀q,ι b=some q->upd ι c ρ b=some q:=by
 intro b a q d;have:=Nr a;simp[upd,this,d]
def n8{o:Oper}{a:Act}{w:World}{args:Array Operand}{b:Array TypeId}{x y:Operand}{t c:TypeId}{X:Value}{w':World}(g:o.op=.call ⟨.builtin .append,args,b⟩)(hx:args.toList=[x,y])(i:b.toList=[t,c])
  (h:∀e,(Builtin.append_ #[t,c] e #[a.eval x,a.eval y]).run P w=.ok X w'):(execOp a.eval o).run P w=.ok (.value X) w':=by
 have f:args.map a.eval=#[a.eval x,a.eval y]:=by apply mg;simp[hx]
 have d:b=#[t,c]:=by apply mg;simp[i]
 simp only[execOp,g,resolve,f,d,aw,aA,ay,invoke,builtin,h]
def sH{o:Oper}{a:Act}{w w':World}{X:Value}(h:(execOp a.eval o).run P w=.ok (.value X) w'){next:Act->World->Prop}{Q:Exit->Act->World->Prop}(b:next (a.put o.dst X) w'):o.wp P a w next Q:=by
 unfold Oper.wp;rw[h];exact b
def Jq{a cap b:Nat}(d:a<=gy)(h:cap<a)(g:b<=1048576):Builtin.nextslicecap a cap*b<=281474976710656:=by
 have d:a<=67108864:=d;have key:Builtin.nextslicecap a cap<=2*a+768:=by
  have f:∀(m c:Nat),c<=2*a+768->Builtin.growBy a m c<=2*a+768:=by
   intro m
   induction m with
   | zero=>intro c hc;exact hc
   | succ m ih=>
    intro c hc;unfold Builtin.growBy;split
    ·exact hc
    ·exact ih _ (by omega)
  unfold Builtin.nextslicecap;split
  ·omega
  ·split
   ·omega
   ·exact f 4 cap (by omega)
 have e:=Es (show Builtin.nextslicecap a cap<=134218496 by omega) g;exact pt e (by decide)
def FA{ι:Inj}{tr:List Lf}{l m:List (den tr)}{e:TypeId}{zc:Array Value}{cap r:Nat}(f:zc.size=tr.length)(a:l.length+m.length<=cap):
  BR ι (Rf.of r (l.length+m.length) cap) (.rows tr (l++m)) (.cells ((l.flatMap (vals tr)++m.flatMap (vals tr)).toArray++Builtin.zeroCells zc (cap - (l.length+m.length))) e):=by
 have c:=ng (t:=tr) l;have d:=ng (t:=tr) m;have b:(Builtin.zeroCells zc (cap - (l.length+m.length))).size=(cap - (l.length+m.length))*tr.length:=by simp[Builtin.zeroCells,f]
 refine⟨_,e,(0,0),rfl,by simp,a,?_,?_,.inr (rV _)⟩
 ·simp only[Array.size_append,b,zH,bW,c,d];rw[<-gD,<-gD,dc];exact nE _ (by omega)
 ·rw[wZ,bW,gD,IN];have:l.length*tr.length+m.length*tr.length=(l.flatMap (vals tr)++m.flatMap (vals tr)).length:=by rw[bW,c,d]
  rw[this];exact AD
def yK{tr:List Lf}{e:TypeId}(h:Nw P tr e=true):∃i z,P.info? e=some i/\i.zero=some z/\z.cells.size=tr.length/\tr.length=i.size/\0<tr.length/\i.bytes<=1048576:=by
 unfold Nw at h;split at h
 ·rename_i i hi;split at h
  ·rename_i z d;simp only[aB,iU]at h;obtain⟨g,f,a,b⟩:=h;have c:i.size=P.cellsOf e:=by unfold Program.cellsOf;rw[hi];rfl
   have a:0<P.cellsOf e:=aG a;exact⟨i,z,hi,d,by omega,by omega,by omega,aG b⟩
  ·cases h
 ·cases h
def Hv{α:Type}{n fr:Nat}{ι0 ι:Inj}{w0:Base}{s:St}{o:Oper}{a:Act}{w:World}{args:Array Operand}{tys:Array TypeId}(ho:o.op=.call ⟨.builtin .append,args,tys⟩)(d:Inv n ι0 w0 ι s a w)
  (Y:ι fr=none) (hge:s.nb<=fr) {k:St->Option α} {z:α} (h:Eb P n fr o.dst args.toList tys.toList s k=some z)
  {next:Act->World->Prop} {Q:Exit->Act->World->Prop} (hn:∀s' ι' a' w',k s'=some z->Inv n ι0 w0 ι' s' a' w'->next a' w'):o.wp P a w next Q:=by
 unfold Eb at h;split at h
 case h_2=>cases h
 rename_i x y t t2 hd hx ht;split at h
 case h_2=>cases h
 rename_i e O;obtain⟨u,hu,U⟩:=av h;obtain⟨v,hv,g⟩:=av U;clear h U;have G:=bp d.tmps hu;have hY:=bp d.tmps hv;have hfr0:∀q,ι0 fr=some q->s.rb<=fr:=by
  intro q F;rcases d.ext fr q F with h | h
  ·rw[Y]at h;cases h
  ·exact h
 split at g
 ·
  simp only[VR]at G;split at g
  case h_2=>cases g
  rename_i tr _;split at g
  case h_2=>cases g
  rename_i I;obtain⟨i,zv,hi,hz,k1,k2,k3,k4⟩:=yK I;obtain⟨m,hm,g⟩:=av g;obtain⟨C,g⟩:=eH g;have C:=aG C;have hle':m.length<=67108864:=C;have A:=Ly d.mem hY hm k2;have hTm:=d.tmps.mono (oL (r:=none) Y);have B:∀{ρ:Option Rf} b y,b≠fr->look s.H b=some y->y≠.dead->∃N,look s.H b=some N/\N≠.dead/\(∀q o,BR ι q N o->BR (upd ι fr ρ) q y o)/\∀t,N=.rows t []->y=.rows t []:=
   λb y _ V hdd=>⟨y,V,hdd,λq o hb=>BR.mono (oL Y) hb,λ_ h=>h⟩
  by_cases h0:m.length=0
  ·have hm0:m=[]:=xw h0;subst hm0;have f:=n8 (P:=P) (X:=.slice none 0 0) (w':=w) ho hx ht λZ=>by
    rw[G];have:=run_append_nothing (P:=P) w t t2 Z e i O hi none 0 0 (aQ _) (a.eval y) (by simpa using A);simpa using this
   refine sH f (hn _ (upd ι fr none) _ _ g (Inv.rebind d hTm B rfl rfl rfl (Eg _ _) (by omega) hd (λ_ _ _ _=>rfl) (.inr ⟨db _ _ _,tr,rfl⟩) (λq F=>by cases F) (aQ _) d.fr hfr0 ?_));unfold VR;exact .inr ⟨db _ _ _,_,rfl⟩
  ·have M:m.length<=grownCap w m.length 0 e:=by simp only[grownCap,Question.cut];omega
   have f:=n8 (P:=P) (X:=.slice (some ⟨w.heap.size,0,none⟩) m.length (grownCap w m.length 0 e))
     (w':=w.drew.alloc (.cells ((m.flatMap (vals tr)).toArray++Builtin.zeroCells zv.cells (grownCap w m.length 0 e - m.length)) e)) ho hx ht λZ=>by
    rw[G];have:=run_append_grow_src (P:=P) w t t2 Z e i zv O hi hz none 0 0 [] (run_firstCells_none _ _ _ _ _) (a.eval y) m.length _ A (by omega) (by omega) (Jq (by simpa using C) (by omega) k4);simpa using this
   refine sH f (hn _ (upd ι fr (some (Rf.of w.heap.size (m.length) (grownCap w m.length 0 e)))) _ _ g (Inv.rebind d (d.tmps.mono (oL Y)) B rfl rfl rfl (Eg _ _) (by omega) hd (λb q hb F=>?_)
    (.inl ⟨_,_,db _ _ _,lp _ _,?_⟩) (λq F=>?_) (by show w.heap.size<=(w.heap.push _).size;simp) (by exact(d.fr.draws (w.drawn+1)).alloc _) hfr0 ?_))
   ·exact jt _ _ (Ax (d.mem.dom b q F))
   ·have:=FA (ι:=upd ι fr (some (Rf.of w.heap.size (m.length) (grownCap w m.length 0 e)))) (tr:=tr) (l:=[]) (m:=m) (e:=e) (zc:=zv.cells) (cap:=grownCap w m.length 0 e) (r:=w.heap.size) k1 (by simpa using M);simpa using this
   ·simp only[ar]at F;subst F;refine⟨by show w.heap.size<(w.heap.push _).size;simp,λb q' _ hq'=>Ax (d.mem.dom b q' hq'),.inr d.fr.size,rfl⟩
   ·simp only[VR];exact .inl ⟨_,db _ _ _,rfl⟩
 ·rename_i c;simp only[VR]at G;split at g
  case h_2=>cases g
  rename_i tr l hb;split at g
  case h_2=>cases g
  rename_i I;simp only[aB]at I;obtain⟨I,K,D⟩:=I;have K:=aG K;have D:=aG D;obtain⟨i,zv,hi,hz,k1,k2,k3,k4⟩:=yK I;obtain⟨m,hm,g⟩:=av g;obtain⟨C,g⟩:=eH g;have C:=aG C;have hle':l.length+m.length<=67108864:=C;have A:=Ly d.mem hY hm k2;have hTk:∀{ρ:Option Rf},TR (upd ι c ρ) (s.kill [c]).T a.tmps:=by
   intro ρ;rw[St.kill_eq];exact d.tmps.kill xL
  have B:∀{ρ:Option Rf} b y,b≠c->look (s.kill [c]).H b=some y->y≠.dead->∃N,look s.H b=some N/\N≠.dead/\(∀q o,BR ι q N o->BR (upd ι c ρ) q y o)/\∀t,N=.rows t []->y=.rows t []:=by
   intro ρ b y hbc V hdd;rw[St.kill_eq]at V;simp only[ud]at V;cases hy:look s.H b with
   | none=>rw[hy]at V;cases V
   | some N=>
    rw[hy]at V;simp only[eO,ar]at V;subst V;exact⟨N,rfl,by rintro rfl;exact hdd rfl,λq o hbr=>BR.kill xL hbr,by rintro t rfl;rfl⟩
  have hlo:(s.kill [c]).lo=s.lo:=by rw[St.kill_eq]
  have hro:(s.kill [c]).ro=s.ro:=by rw[St.kill_eq]
  have hrb:(s.kill [c]).rb=s.rb:=by rw[St.kill_eq]
  have hcn:c<s.nb:=by
   rcases d.mem.blk c _ hb (by simp)with⟨q,_,h1,_⟩ | ⟨h1,_⟩
   ·exact d.mem.low c _ h1
   ·exact d.mem.low c _ h1
  have grow:∀{base:Option Addr} {cp:Nat},a.eval x=.slice base l.length cp->(Builtin.firstCells i.size l.length (.slice base l.length cp)).run P w.drew=.ok (l.flatMap (vals tr)).toArray w.drew->cp<l.length+m.length->o.wp P a w next Q:=by
   intro base cp G hold hlt;have M:l.length+m.length<=grownCap w (l.length+m.length) cp e:=by simp only[grownCap,Question.cut];omega
   have f:=n8 (P:=P) (X:=.slice (some ⟨w.heap.size,0,none⟩) (l.length+m.length) (grownCap w (l.length+m.length) cp e))
     (w':=w.drew.alloc (.cells ((l.flatMap (vals tr)++m.flatMap (vals tr)).toArray++Builtin.zeroCells zv.cells (grownCap w (l.length+m.length) cp e - (l.length+m.length))) e)) ho hx ht λZ=>by
    rw[G];exact run_append_grow_src (P:=P) w t t2 Z e i zv O hi hz base l.length cp _ hold (a.eval y) m.length _ A hlt (by omega) (Jq C hlt k4)
   refine sH f (hn _ (upd ι c (some (Rf.of w.heap.size (l.length+m.length) (grownCap w (l.length+m.length) cp e)))) _ _ g (Inv.rebind d hTk B hlo hro hrb (aQ _) hcn hd (λb q hb F=>?_)
    (.inl ⟨_,_,db _ _ _,lp _ _,FA k1 M⟩) (λq F=>?_) (by show w.heap.size<=(w.heap.push _).size;simp) (by exact(d.fr.draws (w.drawn+1)).alloc _) (λ_ _=>D) ?_))
   ·exact jt _ _ (Ax (d.mem.dom b q F))
   ·simp only[ar]at F;subst F;refine⟨by show w.heap.size<(w.heap.push _).size;simp,λb q' _ hq'=>Ax (d.mem.dom b q' hq'),.inr d.fr.size,rfl⟩
   ·simp only[VR];exact .inl ⟨_,db _ _ _,rfl⟩
  rcases jc d.mem hb with⟨q,S,e',fz,U,g2,g4,g5,g6,g7,g8⟩ | ⟨U,rfl⟩
  ·rcases G with⟨q',J,G⟩ | ⟨J,_⟩
   ·rw[J]at U;cases U;have hqz:q.fz=false:=by
     cases hc:q.fz with
     | false=>rfl
     | true=>have:=d.fz c q J hc;omega
    have g8:=g8.resolve_left (by rw[hqz];simp);by_cases E:q.n+m.length<=q.k
    ·have W:=ng (t:=tr) m;have hbound:q.o+q.n*tr.length+m.length*tr.length<=S.size:=by
      have h1:=nE tr.length E;rw[gD]at h1;omega
     have R:∀j,j<(m.flatMap (vals tr)).length->w.cell? ⟨q.r,q.o+q.n*i.size+j,none⟩=S[q.o+q.n*tr.length+j]?:=by
      intro j hj;rw[bC g2,<-k2]
     have hfz:∀j,j<(m.flatMap (vals tr)).length->w.frozen? ⟨q.r,q.o+q.n*i.size+j,none⟩=false:=by
      intro j hj;exact qi g2 g8 (by rw[<-k2];omega)
     have hst:=kq (P:=P) q.r (q.o+q.n*i.size) e' fz (m.flatMap (vals tr)) 0 S w g2 g8 (by rw[W,<-k2];omega) uU;have L:=run_storeCells_cells (P:=P) q.r (q.o+q.n*i.size) (m.flatMap (vals tr)) 0 w (by
      intro j hj;rw[ct,R j hj];simp;omega) (by intro j hj;rw[ct];exact hfz j hj) uU
     have hw:w.setCells q.r (q.o+q.n*i.size) (m.flatMap (vals tr))=setObj w q.r (.cells (splA S (q.o+q.n*tr.length) (m.flatMap (vals tr))) e' fz):=by
      rw[hst]at L;simp only[ct,xf,jg,<-k2]at L;rw[<-k2];exact L.symm
     have f:=n8 (P:=P) (X:=.slice (some ⟨q.r,q.o,none⟩) (q.n+m.length) q.k) (w':=setObj w q.r (.cells (splA S (q.o+q.n*tr.length) (m.flatMap (vals tr))) e' fz)) ho hx ht λZ=>by
      rw[G,<-hw];exact run_append_room_src (P:=P) w t t2 Z e i O hi q.r q.o q.n q.k (a.eval y) m.length _ A E (λj hj=>by rw[R j hj];simp;omega) hfz
     have hssz:(splA S (q.o+q.n*tr.length) (m.flatMap (vals tr))).size=S.size:=wO (by rw[W];exact hbound)
     refine sH f (hn _ (upd ι c (some ⟨q.r,q.n+m.length,q.k,q.o,q.fz⟩)) _ _ g (Inv.rebind d hTk B hlo hro hrb (aQ _) hcn hd (λb p hbc hp=>rr _ λer=>hbc ((d.mem.inj c b q p J hp er).resolve_right λhh=>by rw[hqz]at hh;cases hh.1).symm)
      (.inl ⟨_,_,db _ _ _,wi g2,⟨_,e',fz,rfl,by simp[g4],E,by rw[hssz];exact g6,?_,.inr (by rw[hssz];exact g8)⟩⟩) (λp hp=>?_) (by simp[setObj]) ?_ (λ_ _=>D) ?_))
     ·show((splA S (q.o+q.n*tr.length) (m.flatMap (vals tr))).toList.drop q.o).take _=_;rw[BE (by omega),bW,g4,IN,<-g7,g4];have hdl:(S.toList.drop q.o).length=S.size - q.o:=by simp
      rw[gD,<-lK,tw (by rw[bW,de,hdl,W];omega)];rw[iv (by rw[bW,de,hdl,W];omega)]
     ·simp only[ar]at hp;subst hp;refine⟨by have:=d.mem.dom c q J;simpa[setObj]using this,λb p' hbc hp' er=>hbc ((d.mem.inj b c p' q hp' J er).resolve_right λhh=>by rw[hqz]at hh;cases hh.2),d.new c q J,hqz⟩
     ·exact d.fr.write ((d.new c q J).imp (λ⟨q0,h,hr⟩=>⟨c,q0,A3 h K,hr⟩) id) _
     ·simp only[VR];exact .inl ⟨_,db _ _ _,rfl⟩
    ·refine grow (base:=some ⟨q.r,q.o,none⟩) (cp:=q.k) (by rw[G,g4]) ?_ (by omega);have hfl:=ng (t:=tr) l;exact run_firstCells_some w.drew i.size l.length ⟨q.r,q.o,none⟩ l.length q.k _ (by rw[hfl,k2]) (yT (off:=0) (w:=w.drew) g2 (m:=l.length*tr.length) (by rw[g7,cg,ox]))
   ·rw[J]at U;cases U
  ·rcases G with⟨q',J,G⟩ | ⟨J,ao,G⟩
   ·rw[J]at U;cases U
   ·by_cases h0:m.length=0
    ·have hm0:m=[]:=xw h0;subst hm0;have f:=n8 (P:=P) (X:=.slice ao 0 0) (w':=w) ho hx ht λZ=>by
      rw[G];have:=run_append_nothing (P:=P) w t t2 Z e i O hi ao 0 0 (aQ _) (a.eval y) (by simpa using A);simpa using this
     refine sH f (hn _ (upd ι c none) _ _ g (Inv.rebind d hTk B hlo hro hrb (aQ _) hcn hd (λ_ _ _ _=>rfl) (.inr ⟨db _ _ _,tr,rfl⟩) (λq F=>by cases F) (aQ _) d.fr (λ_ _=>D) ?_));unfold VR;exact .inr ⟨db _ _ _,_,rfl⟩
    ·exact grow (base:=ao) (cp:=0) (by rw[G];rfl) (Hk _ _ _) (by simp;omega)
 ·cases g
def zf{α:Type}{E:List Ent}(D:∀x∈E,fK P x){n fr:Nat}{ι0 ι:Inj}{w0:Base}{s:St}{o:Oper}{a:Act}{w:World}(A:Inv n ι0 w0 ι s a w)
  (m:∀b,fr<=b->ι b=none) (G:s.nb<=fr) {k:St->Option α} {I:V->St->Option α} {z:α} (h:Jk P E n fr o s k I=some z)
  {next:Act->World->Prop} {Q:Exit->Act->World->Prop}
  (B:∀s' c i w',k s'=some z->Inv n ι0 w0 c s' i w'->next i w')
  (hp:∀v s' c x i w',I v s'=some z->VR c v x->Inv n ι0 w0 c s' i w'->Q (.panic [{ v:=x,recovered:=false }]) i w'):
  o.wp P a w next Q:=by
 unfold Jk at h;split at h
 ·rename_i J y;split at h
  ·rename_i g d;split at h
   ·rename_i f cap hd N;obtain⟨l,M,h⟩:=av h;obtain⟨r,u,L⟩:=u0 D h;split at u
    ·cases u
    rename_i q;simp only[aB]at q;obtain⟨p,args,C⟩:=J;simp only at d;subst d;refine zw y A (λb K _=>m b K) hd N M q.1 q.2 (L _ λ_ _=>rfl) (λj c i w' _ t=>?_) (λj c x w' O t=>?_)
    ·rw[j]at u;exact B _ c i w' u t
    ·rw[j]at u;exact hp _ _ c x a w' u O t
   ·cases h
  ·rename_i d;obtain⟨p,args,C⟩:=J;simp only at d;subst d;exact Hv y A (m fr (aQ _)) G h B
  ·exact FY D A (λb F _=>m b F) h (λs' _ _ _ c i w' H _ e=>B s' c i w' H e) hp
 ·exact FY D A (λb F _=>m b F) h (λs' _ _ _ c i w' H _ e=>B s' c i w' H e) hp
end Go.Abs
