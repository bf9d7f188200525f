
/- append, and calls that move rows.
   Conditions: none; generic over the program. -/
import Derived.Test.YtaogbalpingjhaaGreatDoorAbsN
import Derived.Deep.Upon
set_option linter.unusedSimpArgs false
set_option linter.unusedVariables false
namespace Go.Abs
variable {P:Program}
theorem yR:∀{t:List Lf} {x:den t},∀u∈vals t x,u.oneCell'=true
 | [],_,u,h=>by simp [vals] at h
 | [a],x,u,h=>by
  simp only [vals,List.mem_singleton] at h;subst h;cases a<;>rfl
 | a::b::l,x,u,h=>by
  simp only [vals,cY] at h;rcases h with rfl | h
  ·cases a<;>rfl
  ·exact yR (t:=b::l) u (by simpa using h)
theorem pQ {t:List Lf} {l:List (den t)}:∀u∈l.flatMap (vals t),u.oneCell'=true:=by
 intro u h;obtain ⟨x,_,a⟩:=List.mem_flatMap.1 h;exact yR u a
theorem jc {t a:List Lf} {l:List (den t)} {m:List (den a)} (h:ia t a l=some m):∃e:t=a,m=e▸l:=by
 unfold ia at h;split at h
 ·rename_i e;simp only [ae] at h;exact ⟨e,h.symm⟩
 ·cases h
theorem uu {w:World} {r:Nat} {f:Array Value} {e:TypeId} {fr:Nat×Nat} (h:w.heap[r]?=some (.cells f e fr)) {off o:Nat} {news:List Value} {m:Nat} (i:(((f.toList.drop o).take m).drop off).take news.length=news):
  ∀j u,news[j]?=some u->w.cell? ((⟨r,o+off,none⟩:Addr).add j)=some u:=by
 intro j u d;have c:j<news.length:=by
  rcases aA j news.length with b | b
  ·exact b
  ·rw [dx b] at d;cases d
 rw [iY,aO h];have a:=eN (λq:List Value=>q[j]?) i;simp only [lS c,iP,d] at a;by_cases g:off+j<m
 ·rw [lS g,iP] at a;simpa [fN] using a
 ·rw [dx (by rw [eH];omega)] at a;cases a
theorem Src.empty {w:World} {size:Nat} {C F:TypeId} (E:P.underlying C=some (.slice F)) (A:Option Addr):Src P size C (.slice A 0 0) 0 [] w:=by
 cases A with
 | none=>exact Src.ofNil w E 0
 | some a=>exact Src.ofSlice w E a 0 0 [] (by simp) (λj u J=>by simp at J) (λu G=>by cases G)
theorem Af (size:Nat) (b:Option Addr) (w:World):(Builtin.firstCells size 0 (.slice b 0 0)).run P w=.ok #[] w:=by
 cases b with
 | none=>exact run_firstCells_none _ _ _ _ _
 | some a=>exact run_firstCells_some w size 0 a 0 0 [] (by simp) (λj u c=>by simp at c)
theorem C2 {ι:Inj} {H:List (Nat×Blk)} {nb:Nat} {w:World} (B:WR ι H nb w) {b:V} {Y:Value} (f:VR ι b Y) {tr:List Lf} {C:TypeId} {m:List (den tr)} (h:srcK P H tr C b=some m)
  {size:Nat} (o:tr.length=size):Src P size C Y m.length (m.flatMap (vals tr)) w:=by
 unfold srcK at h;split at h
 ·rename_i e g;split at h
  ·simp only [ae] at h;subst h;simp only [VR] at f;subst f;exact Src.ofNil w g 0
  ·rename_i c;split at h
   case h_2=>cases h
   rename_i t l p;obtain ⟨rfl,rfl⟩:=jc h;simp only [VR] at f;rcases fa B p with ⟨q,E,I,fr,a,z,A,D,L,v,_⟩ | ⟨a,rfl⟩
   ·rcases f with ⟨J,d,rfl⟩ | ⟨d,_⟩
    ·rw [d] at a;cases a;rw [<-A];refine Src.ofSlice w g _ _ _ _ (by rw [jM,o]) (uu (off:=0) z (m:=m.length*t.length) ?_) pQ;rw [v,ie,mZ]
    ·rw [d] at a;cases a
   ·rcases f with ⟨q,d,_⟩ | ⟨d,s,rfl⟩
    ·rw [d] at a;cases a
    ·exact Src.empty g s
  ·rename_i O c j n _;split at h
   case h_2=>cases h
   rename_i t l p;split at h
   case h_2=>cases h
   rename_i x;have x:=aS x;obtain ⟨k,h⟩:=ca h;have k:=ax k;obtain ⟨rfl,rfl⟩:=jc h;have y:((l.drop j).take n).length=n:=by rw [eH,km];omega
   simp only [VR] at f;rw [y];rcases f with ⟨q,cp,off,d,N,F,rfl⟩ | ⟨d,⟨rfl,_⟩,s,rfl⟩
   ·rcases fa B p with ⟨J,E,I,fr,a,z,A,D,L,v,_⟩ | ⟨a,rfl⟩
    ·rw [d] at a;cases a;refine Src.ofSlice w g _ _ _ _ (by rw [jM,y,o]) ?_ pQ;by_cases r:0<n
     ·rw [F r,x];refine uu z (m:=l.length*t.length) ?_;rw [v,<-qO,jM,y,<-qz]
     ·have r:n=0:=by omega
      subst r;intro j u M;simp at M
    ·rw [d] at a;cases a
   ·simp only [jR,List.flatMap_nil];exact Src.empty g s
  ·cases h
 ·rename_i g;split at h
  case h_2=>cases h
  rename_i l;obtain ⟨rfl,rfl⟩:=jc h;simp only [VR] at f;subst f;simp only [ci,jC] at o;subst o;have:=Src.ofString (P:=P) w g ⟨l.toArray⟩;have G:byteCells ⟨l.toArray⟩=(l.map λb=>((b.toNat:Nat):Int)).flatMap (vals [.i .u8]):=by
   rw [lZ];simp [byteCells]
  have K:(ByteArray.mk l.toArray).size=(l.map λb=>((b.toNat:Nat):Int)).length:=by rw [yQ];rfl
  rw [G,K] at this;exact this
 ·cases h
theorem Inv.rebind {n:Nat} {ι0 ι:Inj} {w0:Base} {w w':World} {s X:St} {a:Act} {c O:Nat} {ρ:Option Rf} {blk:Blk} {v:V} {x:Value} {dst:Option Nat} (G:Inv n ι0 w0 ι s a w)
  (hT:TR (upd ι c ρ) X.T a.tmps) (hH:∀b y,b≠c->look X.H b=some y->y≠.dead->∃Y,look s.H b=some Y/\Y≠.dead/\(∀q o,BR ι q Y o->BR (upd ι c ρ) q y o)/\∀t,Y=.rows t []->y=.rows t [])
  (hlo:X.lo=s.lo) (K:X.ro=s.ro) (hrb:X.rb=s.rb) (hnb:s.nb<=O) (hc:c<O) (hd:o8 n dst=true)
  (h1:∀b q,b≠c->ι b=some (some q)->w'.heap[q.r]?=w.heap[q.r]?) (h2:BW (upd ι c ρ) w' c blk) (h3:∀q,ρ=some q->q.r<w'.heap.size/\(∀b U,b≠c->ι b=some (some U)->U.r≠q.r)/\
   ((∃q0,ι0 c=some (some q0)/\q0.r=q.r)\/w0.w.heap.size<=q.r)/\q.fz=false) (h4:w.heap.size<=w'.heap.size) (h5:Fr (roI ι0 s.ro) w0.w w') (h6:∀q,ι0 c=some q->s.rb<=c)
  (hv:VR (upd ι c ρ) v x):Inv n ι0 w0 (upd ι c ρ) (X.app dst (some v) [(c,blk)] O) (a.put dst x) w':=by
 have A:∀b,b≠c->upd ι c ρ b=ι b:=λb C=>by simp [upd,C]
 have E:upd ι c ρ c=some ρ:=by simp [upd]
 refine ⟨by rw [iZ];exact G.size,by rw [fc];exact G.defers,hT.app G.size hd (λu hu=>by cases hu;exact hv),⟨λb W q U Z M e3=>?_,λb q e=>?_,λb q e=>?_,λb y hl Q=>?_⟩,λb q e=>?_,λb q e=>?_,?_,?_,λb q e hq=>?_,by simp only [St.app,K];exact G.gl⟩
 ·by_cases C:b=c
  ·by_cases F:W=c
   ·exact .inl (by rw [C,F])
   ·subst C;rw [E] at Z;rw [A W F] at M;simp only [ae] at Z;exact absurd e3.symm ((h3 q Z).2.1 W U F M)
  ·rw [A b C] at Z;by_cases F:W=c
   ·subst F;rw [E] at M;simp only [ae] at M;exact absurd e3 ((h3 U M).2.1 b q C Z)
   ·rw [A W F] at M;exact G.mem.inj b W q U Z M e3
 ·by_cases C:b=c
  ·rw [C];exact hc
  ·rw [A b C] at e;have:=G.mem.low b q e;exact jQ this hnb
 ·by_cases C:b=c
  ·subst C;rw [E] at e;simp only [ae] at e;exact (h3 q e).1
  ·rw [A b C] at e;exact jQ (G.mem.dom b q e) h4
 ·simp only [St.app,jr,jt,aF] at hl;split at hl
  ·rename_i e;subst e;simp only [ae] at hl;subst hl;exact h2
  ·rename_i J;obtain ⟨Y,g1,g2,g3,g4⟩:=hH b y (λe=>J e.symm) hl Q;exact (G.mem.blk b Y g1 g2).map (A b (λe=>J e.symm)) (λq hq=>h1 b q (λe=>J e.symm) hq) g3 g4
 ·by_cases C:b=c
  ·subst C;exact .inr (by simp only [St.app,hrb];exact h6 q e)
  ·rw [A b C];simp only [St.app,hrb];exact G.ext b q e
 ·by_cases C:b=c
  ·subst C;rw [E] at e;simp only [ae] at e;exact (h3 q e).2.2.1
  ·rw [A b C] at e;exact G.new b q e
 ·simp only [St.app,K];exact h5
 ·simp only [St.app,hlo];exact G.low
 ·simp only [St.app,K];by_cases C:b=c
  ·subst C;rw [E] at e;simp only [ae] at e;have:=(h3 q e).2.2.2;rw [this] at hq;cases hq
  ·rw [A b C] at e;exact G.fz b q e hq
theorem fS9 {b c:Nat} (h:isIn [c] b=false):b≠c:=by
 rintro rfl;simp [isIn] at h
theorem sC {ι:Inj} {c:Nat} {ρ:Option Rf}:∀b,isIn [c] b=false->∀q,ι b=some q->upd ι c ρ b=some q:=by
 intro b a q d;have:=fS9 a;simp [upd,this,d]
theorem ku {o:Oper} {a:Act} {w:World} {args:Array Operand} {b:Array TypeId} {x y:Operand} {t d:TypeId} {X:Value} {w':World} (i:o.op=.call ⟨.builtin .append,args,b⟩) (j:args.toList=[x,y]) (g:b.toList=[t,d])
  (h:∀f,(Builtin.append_ #[t,d] f #[a.eval x,a.eval y]).run P w=.ok X w'):(execOp a.eval o).run P w=.ok (.value X) w':=by
 have e:args.map a.eval=#[a.eval x,a.eval y]:=by apply gz;simp [j]
 have c:b=#[t,d]:=by apply gz;simp [g]
 simp only [execOp,i,resolve,e,c,ak,au,aq,invoke,builtin,h]
theorem ny {o:Oper} {a:Act} {w w':World} {X:Value} (h:(execOp a.eval o).run P w=.ok (.value X) w') {next:Act->World->Prop} {Q:Exit->Act->World->Prop} (b:next (a.put o.dst X) w'):o.wp P a w next Q:=by
 unfold Oper.wp;rw [h];exact b
theorem BY {a cap b:Nat} (d:a<=eY) (h:cap<a) (f:b<=1048576):Builtin.nextslicecap a cap*b<=281474976710656:=by
 have d:a<=67108864:=d;have key:Builtin.nextslicecap a cap<=2*a+768:=by
  have e:∀(m c:Nat),c<=2*a+768->Builtin.growBy a m c<=2*a+768:=by
   intro m
   induction m with
   | zero=>intro c hc;exact hc
   | succ m ih=>
    intro c hc;unfold Builtin.growBy;split
    ·exact hc
    ·exact ih _ (by omega)
  unfold Builtin.nextslicecap;split
  ·omega
  ·split
   ·omega
   ·exact e 4 cap (by omega)
 have g:=qY (show Builtin.nextslicecap a cap<=134218496 by omega) f;exact mT g (by decide)
theorem yS {ι:Inj} {tr:List Lf} {l m:List (den tr)} {e:TypeId} {zc:Array Value} {cap r:Nat} (f:zc.size=tr.length) (a:l.length+m.length<=cap):
  BR ι (Rf.of r (l.length+m.length) cap) (.rows tr (l++m)) (.cells ((l.flatMap (vals tr)++m.flatMap (vals tr)).toArray++Builtin.zeroCells zc (cap - (l.length+m.length))) e):=by
 have d:=jM (t:=tr) l;have c:=jM (t:=tr) m;have b:(Builtin.zeroCells zc (cap - (l.length+m.length))).size=(cap - (l.length+m.length))*tr.length:=by simp [Builtin.zeroCells,f]
 refine ⟨_,e,(0,0),rfl,by simp,a,?_,?_,.inr (m6 _)⟩
 ·simp only [Array.size_append,b,qD,iQ,d,c];rw [<-dB,<-dB,bM];exact jV _ (by omega)
 ·rw [qJ,iQ,dB,B7];have:l.length*tr.length+m.length*tr.length=(l.flatMap (vals tr)++m.flatMap (vals tr)).length:=by rw [iQ,d,c]
  rw [this];exact List.take_left
theorem sT {tr:List Lf} {e:TypeId} (h:FI P tr e=true):∃i z,P.info? e=some i/\i.zero=some z/\z.cells.size=tr.length/\tr.length=i.size/\0<tr.length/\i.bytes<=1048576:=by
 unfold FI at h;split at h
 ·rename_i i hi;split at h
  ·rename_i z b;simp only [av,eM] at h;obtain ⟨f,g,a,c⟩:=h;have d:i.size=P.cellsOf e:=by unfold Program.cellsOf;rw [hi];rfl
   have a:0<P.cellsOf e:=ax a;exact ⟨i,z,hi,b,by omega,by omega,by omega,ax c⟩
  ·cases h
 ·cases h
theorem Ab {α:Type} {n fr:Nat} {ι0 ι:Inj} {w0:Base} {s:St} {o:Oper} {a:Act} {w:World} {args:Array Operand} {tys:Array TypeId} (ho:o.op=.call ⟨.builtin .append,args,tys⟩) (d:Inv n ι0 w0 ι s a w)
  (V:ι fr=none) (hge:s.nb<=fr) {k:St->Option α} {z:α} (h:wX P n fr o.dst args.toList tys.toList s k=some z)
  {next:Act->World->Prop} {Q:Exit->Act->World->Prop} (hn:∀s' ι' a' w',k s'=some z->Inv n ι0 w0 ι' s' a' w'->next a' w'):o.wp P a w next Q:=by
 unfold wX at h;split at h
 case h_2=>cases h
 rename_i x y t t2 hd hx ht;split at h
 case h_2=>cases h
 rename_i e O;obtain ⟨u,hu,U⟩:=ah h;obtain ⟨v,hv,g⟩:=ah U;clear h U;have G:=aP d.tmps hu;have hY:=aP d.tmps hv;have hfr0:∀q,ι0 fr=some q->s.rb<=fr:=by
  intro q E;rcases d.ext fr q E with h | h
  ·rw [V] at h;cases h
  ·exact h
 split at g
 ·
  simp only [VR] at G;split at g
  case h_2=>cases g
  rename_i tr _;split at g
  case h_2=>cases g
  rename_i I;obtain ⟨i,zv,hi,hz,k1,k2,k3,k4⟩:=sT I;obtain ⟨m,hm,g⟩:=ah g;obtain ⟨C,g⟩:=ca g;have C:=ax C;have hle':m.length<=67108864:=C;have B:=C2 d.mem hY hm k2;have hTm:=d.tmps.mono (kW (r:=none) V);have A:∀{ρ:Option Rf} b y,b≠fr->look s.H b=some y->y≠.dead->∃M,look s.H b=some M/\M≠.dead/\(∀q o,BR ι q M o->BR (upd ι fr ρ) q y o)/\∀t,M=.rows t []->y=.rows t []:=
   λb y _ hl hdd=>⟨y,hl,hdd,λq o hb=>BR.mono (kW V) hb,λ_ h=>h⟩
  by_cases h0:m.length=0
  ·have hm0:m=[]:=sH h0;subst hm0;have f:=ku (P:=P) (X:=.slice none 0 0) (w':=w) ho hx ht λZ=>by
    rw [G];have:=run_append_nothing (P:=P) w t t2 Z e i O hi none 0 0 (aL _) (a.eval y) (by simpa using B);simpa using this
   refine ny f (hn _ (upd ι fr none) _ _ g (Inv.rebind d hTm A rfl rfl rfl (wG _ _) (by omega) hd (λ_ _ _ _=>rfl) (.inr ⟨bK _ _ _,tr,rfl⟩) (λq E=>by cases E) (aL _) d.fr hfr0 ?_));unfold VR;exact .inr ⟨bK _ _ _,_,rfl⟩
  ·have N:m.length<=grownCap w m.length 0 e:=by simp only [grownCap,Question.cut];omega
   have f:=ku (P:=P) (X:=.slice (some ⟨w.heap.size,0,none⟩) m.length (grownCap w m.length 0 e))
     (w':=w.drew.alloc (.cells ((m.flatMap (vals tr)).toArray++Builtin.zeroCells zv.cells (grownCap w m.length 0 e - m.length)) e)) ho hx ht λZ=>by
    rw [G];have:=run_append_grow_src (P:=P) w t t2 Z e i zv O hi hz none 0 0 [] (run_firstCells_none _ _ _ _ _) (a.eval y) m.length _ B (by omega) (by omega) (BY (by simpa using C) (by omega) k4);simpa using this
   refine ny f (hn _ (upd ι fr (some (Rf.of w.heap.size (m.length) (grownCap w m.length 0 e)))) _ _ g (Inv.rebind d (d.tmps.mono (kW V)) A rfl rfl rfl (wG _ _) (by omega) hd (λb q hb E=>?_)
    (.inl ⟨_,_,bK _ _ _,fD _ _,?_⟩) (λq E=>?_) (by show w.heap.size<=(w.heap.push _).size;simp) (by exact (d.fr.draws (w.drawn+1)).alloc _) hfr0 ?_))
   ·exact fB _ _ (ub (d.mem.dom b q E))
   ·have:=yS (ι:=upd ι fr (some (Rf.of w.heap.size (m.length) (grownCap w m.length 0 e)))) (tr:=tr) (l:=[]) (m:=m) (e:=e) (zc:=zv.cells) (cap:=grownCap w m.length 0 e) (r:=w.heap.size) k1 (by simpa using N);simpa using this
   ·simp only [ae] at E;subst E;refine ⟨by show w.heap.size<(w.heap.push _).size;simp,λb q' _ hq'=>ub (d.mem.dom b q' hq'),.inr d.fr.size,rfl⟩
   ·simp only [VR];exact .inl ⟨_,bK _ _ _,rfl⟩
 ·rename_i c;simp only [VR] at G;split at g
  case h_2=>cases g
  rename_i tr l hb;split at g
  case h_2=>cases g
  rename_i I;simp only [av] at I;obtain ⟨I,R,D⟩:=I;have R:=ax R;have D:=ax D;obtain ⟨i,zv,hi,hz,k1,k2,k3,k4⟩:=sT I;obtain ⟨m,hm,g⟩:=ah g;obtain ⟨C,g⟩:=ca g;have C:=ax C;have hle':l.length+m.length<=67108864:=C;have B:=C2 d.mem hY hm k2;have hTk:∀{ρ:Option Rf},TR (upd ι c ρ) (s.kill [c]).T a.tmps:=by
   intro ρ;rw [St.kill_eq];exact d.tmps.kill sC
  have A:∀{ρ:Option Rf} b y,b≠c->look (s.kill [c]).H b=some y->y≠.dead->∃M,look s.H b=some M/\M≠.dead/\(∀q o,BR ι q M o->BR (upd ι c ρ) q y o)/\∀t,M=.rows t []->y=.rows t []:=by
   intro ρ b y W hl hdd;rw [St.kill_eq] at hl;simp only [oP] at hl;cases hy:look s.H b with
   | none=>rw [hy] at hl;cases hl
   | some M=>
    rw [hy] at hl;simp only [cK,ae] at hl;subst hl;exact ⟨M,rfl,by rintro rfl;exact hdd rfl,λq o hbr=>BR.kill sC hbr,by rintro t rfl;rfl⟩
  have hlo:(s.kill [c]).lo=s.lo:=by rw [St.kill_eq]
  have hro:(s.kill [c]).ro=s.ro:=by rw [St.kill_eq]
  have hrb:(s.kill [c]).rb=s.rb:=by rw [St.kill_eq]
  have hcn:c<s.nb:=by
   rcases d.mem.blk c _ hb (by simp) with ⟨q,_,h1,_⟩ | ⟨h1,_⟩
   ·exact d.mem.low c _ h1
   ·exact d.mem.low c _ h1
  have grow:∀{base:Option Addr} {cp:Nat},a.eval x=.slice base l.length cp->(Builtin.firstCells i.size l.length (.slice base l.length cp)).run P w.drew=.ok (l.flatMap (vals tr)).toArray w.drew->cp<l.length+m.length->o.wp P a w next Q:=by
   intro base cp G hold hlt;have N:l.length+m.length<=grownCap w (l.length+m.length) cp e:=by simp only [grownCap,Question.cut];omega
   have f:=ku (P:=P) (X:=.slice (some ⟨w.heap.size,0,none⟩) (l.length+m.length) (grownCap w (l.length+m.length) cp e))
     (w':=w.drew.alloc (.cells ((l.flatMap (vals tr)++m.flatMap (vals tr)).toArray++Builtin.zeroCells zv.cells (grownCap w (l.length+m.length) cp e - (l.length+m.length))) e)) ho hx ht λZ=>by
    rw [G];exact run_append_grow_src (P:=P) w t t2 Z e i zv O hi hz base l.length cp _ hold (a.eval y) m.length _ B hlt (by omega) (BY C hlt k4)
   refine ny f (hn _ (upd ι c (some (Rf.of w.heap.size (l.length+m.length) (grownCap w (l.length+m.length) cp e)))) _ _ g (Inv.rebind d hTk A hlo hro hrb (aL _) hcn hd (λb q hb E=>?_)
    (.inl ⟨_,_,bK _ _ _,fD _ _,yS k1 N⟩) (λq E=>?_) (by show w.heap.size<=(w.heap.push _).size;simp) (by exact (d.fr.draws (w.drawn+1)).alloc _) (λ_ _=>D) ?_))
   ·exact fB _ _ (ub (d.mem.dom b q E))
   ·simp only [ae] at E;subst E;refine ⟨by show w.heap.size<(w.heap.push _).size;simp,λb q' _ hq'=>ub (d.mem.dom b q' hq'),.inr d.fr.size,rfl⟩
   ·simp only [VR];exact .inl ⟨_,bK _ _ _,rfl⟩
  rcases fa d.mem hb with ⟨q,S,e',fz,U,g2,g4,g5,g6,g7,g8⟩ | ⟨U,rfl⟩
  ·rcases G with ⟨q',J,G⟩ | ⟨J,_⟩
   ·rw [J] at U;cases U;have Y:q.fz=false:=by
     cases hc:q.fz with
     | false=>rfl
     | true=>have:=d.fz c q J hc;omega
    have g8:=g8.resolve_left (by rw [Y];simp);by_cases F:q.n+m.length<=q.k
    ·have hmz:=jM (t:=tr) m;have hbound:q.o+q.n*tr.length+m.length*tr.length<=S.size:=by
      have h1:=jV tr.length F;rw [dB] at h1;omega
     have L:∀j,j<(m.flatMap (vals tr)).length->w.cell? ⟨q.r,q.o+q.n*i.size+j,none⟩=S[q.o+q.n*tr.length+j]?:=by
      intro j hj;rw [aO g2,<-k2]
     have hfz:∀j,j<(m.flatMap (vals tr)).length->w.frozen? ⟨q.r,q.o+q.n*i.size+j,none⟩=false:=by
      intro j hj;exact lI g2 g8 (by rw [<-k2];omega)
     have hst:=gf (P:=P) q.r (q.o+q.n*i.size) e' fz (m.flatMap (vals tr)) 0 S w g2 g8 (by rw [hmz,<-k2];omega) pQ;have K:=run_storeCells_cells (P:=P) q.r (q.o+q.n*i.size) (m.flatMap (vals tr)) 0 w (by
      intro j hj;rw [dG,L j hj];simp;omega) (by intro j hj;rw [dG];exact hfz j hj) pQ
     have hw:w.setCells q.r (q.o+q.n*i.size) (m.flatMap (vals tr))=setObj w q.r (.cells (splA S (q.o+q.n*tr.length) (m.flatMap (vals tr))) e' fz):=by
      rw [hst] at K;simp only [dG,ri,kT,<-k2] at K;rw [<-k2];exact K.symm
     have f:=ku (P:=P) (X:=.slice (some ⟨q.r,q.o,none⟩) (q.n+m.length) q.k) (w':=setObj w q.r (.cells (splA S (q.o+q.n*tr.length) (m.flatMap (vals tr))) e' fz)) ho hx ht λZ=>by
      rw [G,<-hw];exact run_append_room_src (P:=P) w t t2 Z e i O hi q.r q.o q.n q.k (a.eval y) m.length _ B F (λj hj=>by rw [L j hj];simp;omega) hfz
     have hssz:(splA S (q.o+q.n*tr.length) (m.flatMap (vals tr))).size=S.size:=qW (by rw [hmz];exact hbound)
     refine ny f (hn _ (upd ι c (some ⟨q.r,q.n+m.length,q.k,q.o,q.fz⟩)) _ _ g (Inv.rebind d hTk A hlo hro hrb (aL _) hcn hd (λb p W hp=>mE _ λer=>W ((d.mem.inj c b q p J hp er).resolve_right λhh=>by rw [Y] at hh;cases hh.1).symm)
      (.inl ⟨_,_,bK _ _ _,qS g2,⟨_,e',fz,rfl,by simp [g4],F,by rw [hssz];exact g6,?_,.inr (by rw [hssz];exact g8)⟩⟩) (λp hp=>?_) (by simp [setObj]) ?_ (λ_ _=>D) ?_))
     ·show ((splA S (q.o+q.n*tr.length) (m.flatMap (vals tr))).toList.drop q.o).take _=_;rw [vn (by omega),iQ,g4,B7,<-g7,g4];have hdl:(S.toList.drop q.o).length=S.size - q.o:=by simp
      rw [dB,<-AA,o5 (by rw [iQ,eH,hdl,hmz];omega)];rw [fO (by rw [iQ,eH,hdl,hmz];omega)]
     ·simp only [ae] at hp;subst hp;refine ⟨by have:=d.mem.dom c q J;simpa [setObj] using this,λb p' W hp' er=>W ((d.mem.inj b c p' q hp' J er).resolve_right λhh=>by rw [Y] at hh;cases hh.2),d.new c q J,Y⟩
     ·exact d.fr.write ((d.new c q J).imp (λ⟨q0,h,hr⟩=>⟨c,q0,vF h R,hr⟩) id) _
     ·simp only [VR];exact .inl ⟨_,bK _ _ _,rfl⟩
    ·refine grow (base:=some ⟨q.r,q.o,none⟩) (cp:=q.k) (by rw [G,g4]) ?_ (by omega);have hfl:=jM (t:=tr) l;exact run_firstCells_some w.drew i.size l.length ⟨q.r,q.o,none⟩ l.length q.k _ (by rw [hfl,k2]) (uu (off:=0) (w:=w.drew) g2 (m:=l.length*tr.length) (by rw [g7,ie,mZ]))
   ·rw [J] at U;cases U
  ·rcases G with ⟨q',J,G⟩ | ⟨J,ao,G⟩
   ·rw [J] at U;cases U
   ·by_cases h0:m.length=0
    ·have hm0:m=[]:=sH h0;subst hm0;have f:=ku (P:=P) (X:=.slice ao 0 0) (w':=w) ho hx ht λZ=>by
      rw [G];have:=run_append_nothing (P:=P) w t t2 Z e i O hi ao 0 0 (aL _) (a.eval y) (by simpa using B);simpa using this
     refine ny f (hn _ (upd ι c none) _ _ g (Inv.rebind d hTk A hlo hro hrb (aL _) hcn hd (λ_ _ _ _=>rfl) (.inr ⟨bK _ _ _,tr,rfl⟩) (λq E=>by cases E) (aL _) d.fr (λ_ _=>D) ?_));unfold VR;exact .inr ⟨bK _ _ _,_,rfl⟩
    ·exact grow (base:=ao) (cp:=0) (by rw [G];rfl) (Af _ _ _) (by simp;omega)
 ·cases g
theorem uh {α:Type} {E:List Ent} (F:∀x∈E,cD P x) {n fr:Nat} {ι0 ι:Inj} {w0:Base} {s:St} {o:Oper} {a:Act} {w:World} (C:Inv n ι0 w0 ι s a w)
  (m:∀b,fr<=b->ι b=none) (J:s.nb<=fr) {k:St->Option α} {L:V->St->Option α} {z:α} (h:A3 P E n fr o s k L=some z)
  {next:Act->World->Prop} {Q:Exit->Act->World->Prop}
  (B:∀p c j w',k p=some z->Inv n ι0 w0 c p j w'->next j w')
  (I:∀v p c x j w',L v p=some z->VR c v x->Inv n ι0 w0 c p j w'->Q (.panic [{ v:=x,recovered:=false }]) j w'):
  o.wp P a w next Q:=by
 unfold A3 at h;split at h
 ·rename_i K A;split at h
  ·rename_i g d;split at h
   ·rename_i f cap M O;obtain ⟨l,S,h⟩:=ah h;obtain ⟨r,y,R⟩:=pY F h;split at y
    ·cases y
    rename_i t;simp only [av] at t;obtain ⟨q,args,H⟩:=K;simp only at d;subst d;refine uv A C (λb T _=>m b T) M O S t.1 t.2 (R _ λ_ _=>rfl) (λe c j w' _ u=>?_) (λe c x w' N u=>?_)
    ·rw [e] at y;exact B _ c j w' y u
    ·rw [e] at y;exact I _ _ c x a w' y N u
   ·cases h
  ·rename_i d;obtain ⟨q,args,H⟩:=K;simp only at d;subst d;exact Ab A C (m fr (aL _)) J h B
  ·exact zd F C (λb D _=>m b D) h (λp _ _ _ c j w' G _ i=>B p c j w' G i) I
 ·exact zd F C (λb D _=>m b D) h (λp _ _ _ c j w' G _ i=>B p c j w' G i) I
end Go.Abs
