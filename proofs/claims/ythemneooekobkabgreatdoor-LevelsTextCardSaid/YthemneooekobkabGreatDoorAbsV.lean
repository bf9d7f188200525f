
/- append, and calls that move rows.
   Conditions: none; generic over the program. -/
import Derived.Test.YthemneooekobkabGreatDoorAbsN
import Derived.Deep.Upon
set_option linter.unusedSimpArgs false
set_option linter.unusedVariables false
namespace Go.Abs
variable {P:Program}
theorem Ik:∀{t:List Lf} {x:den t},∀u∈vals t x,u.oneCell'=true
 | [],_,u,h=>by simp [vals] at h
 | [a],x,u,h=>by
  simp only [vals,n9] at h;subst h;cases a<;>rfl
 | a::b::l,x,u,h=>by
  simp only [vals,cL] at h;rcases h with rfl | h
  ·cases a<;>rfl
  ·exact Ik (t:=b::l) u (by simpa using h)
theorem wn {t:List Lf} {l:List (den t)}:∀u∈l.flatMap (vals t),u.oneCell'=true:=by
 intro u h;obtain ⟨x,_,hx⟩:=E8.1 h;exact Ik u hx
theorem nl {t a:List Lf} {l:List (den t)} {m:List (den a)} (h:mu t a l=some m):∃e:t=a,m=e▸l:=by
 unfold mu at h;split at h
 ·rename_i e;simp only [au] at h;exact ⟨e,h.symm⟩
 ·cases h
theorem Bv {w:World} {r:Nat} {f:Array Value} {e:TypeId} {fr:Nat×Nat} (h:w.heap[r]?=some (.cells f e fr)) {off o:Nat} {news:List Value} {m:Nat} (i:(((f.toList.drop o).take m).drop off).take news.length=news):
  ∀j u,news[j]?=some u->w.cell? ((⟨r,o+off,none⟩:Addr).add j)=some u:=by
 intro j u b;have d:j<news.length:=by
  rcases aH j news.length with c | c
  ·exact c
  ·rw [g9 c] at b;cases b
 rw [nk,bw h];have a:=cj (λq:List Value=>q[j]?) i;simp only [qA d,na,b] at a;by_cases g:off+j<m
 ·rw [qA g,na] at a;simpa [iP] using a
 ·rw [g9 (by rw [dG];omega)] at a;cases a
theorem Src.empty {w:World} {size:Nat} {F O:TypeId} (C:P.underlying F=some (.slice O)) (E:Option Addr):Src P size F (.slice E 0 0) 0 [] w:=by
 cases E with
 | none=>exact Src.ofNil w C 0
 | some a=>exact Src.ofSlice w C a 0 0 [] (by simp) (λj u G=>by simp at G) (λu J=>by cases J)
theorem IP (size:Nat) (b:Option Addr) (w:World):(Builtin.firstCells size 0 (.slice b 0 0)).run P w=.ok #[] w:=by
 cases b with
 | none=>exact run_firstCells_none _ _ _ _ _
 | some a=>exact run_firstCells_some w size 0 a 0 0 [] (by simp) (λj u c=>by simp at c)
theorem LU {ι:Inj} {H:List (Nat×Blk)} {nb:Nat} {w:World} (A:WR ι H nb w) {b:V} {Y:Value} (f:VR ι b Y) {tr:List Lf} {z:TypeId} {m:List (den tr)} (h:srcK P H tr z b=some m)
  {size:Nat} (hs:tr.length=size):Src P size z Y m.length (m.flatMap (vals tr)) w:=by
 unfold srcK at h;split at h
 ·rename_i e g;split at h
  ·simp only [au] at h;subst h;simp only [VR] at f;subst f;exact Src.ofNil w g 0
  ·rename_i c;split at h
   case h_2=>cases h
   rename_i t l r;obtain ⟨rfl,rfl⟩:=nl h;simp only [VR] at f;rcases jE A r with ⟨q,L,E,fr,a,p,B,C,I,v,_⟩ | ⟨a,rfl⟩
   ·rcases f with ⟨J,d,rfl⟩ | ⟨d,_⟩
    ·rw [d] at a;cases a;rw [<-B];refine Src.ofSlice w g _ _ _ _ (by rw [oz,hs]) (Bv (off:=0) p (m:=m.length*t.length) ?_) wn;rw [v,bV,ma]
    ·rw [d] at a;cases a
   ·rcases f with ⟨q,d,_⟩ | ⟨d,s,rfl⟩
    ·rw [d] at a;cases a
    ·exact Src.empty g s
  ·rename_i M c j n _;split at h
   case h_2=>cases h
   rename_i t l r;split at h
   case h_2=>cases h
   rename_i o;have o:=bP o;obtain ⟨k,h⟩:=dY h;have k:=aJ k;obtain ⟨rfl,rfl⟩:=nl h;have y:((l.drop j).take n).length=n:=by rw [dG,bN];omega
   simp only [VR] at f;rw [y];rcases f with ⟨q,cp,off,d,N,G,rfl⟩ | ⟨d,⟨rfl,_⟩,s,rfl⟩
   ·rcases jE A r with ⟨J,L,E,fr,a,p,B,C,I,v,_⟩ | ⟨a,rfl⟩
    ·rw [d] at a;cases a;refine Src.ofSlice w g _ _ _ _ (by rw [oz,y,hs]) ?_ wn;by_cases x:0<n
     ·rw [G x,o];refine Bv p (m:=l.length*t.length) ?_;rw [v,<-wO,oz,y,<-yI]
     ·have x:n=0:=by omega
      subst x;intro j u K;simp at K
    ·rw [d] at a;cases a
   ·simp only [lT,List.flatMap_nil];exact Src.empty g s
  ·cases h
 ·rename_i g;split at h
  case h_2=>cases h
  rename_i l;obtain ⟨rfl,rfl⟩:=nl h;simp only [VR] at f;subst f;simp only [aE,bz] at hs;subst hs;have:=Src.ofString (P:=P) w g ⟨l.toArray⟩;have D:byteCells ⟨l.toArray⟩=(l.map λb=>((b.toNat:Nat):Int)).flatMap (vals [.i .u8]):=by
   rw [rS];simp [byteCells]
  have F:(ByteArray.mk l.toArray).size=(l.map λb=>((b.toNat:Nat):Int)).length:=by rw [xp];rfl
  rw [D,F] at this;exact this
 ·cases h
theorem Inv.rebind {n:Nat} {ι0 ι:Inj} {w0:Base} {w w':World} {s Y:St} {a:Act} {c O:Nat} {ρ:Option Rf} {blk:Blk} {v:V} {x:Value} {dst:Option Nat} (J:Inv n ι0 w0 ι s a w)
  (hT:TR (upd ι c ρ) Y.T a.tmps) (hH:∀b y,b≠c->look Y.H b=some y->y≠.dead->∃y0,look s.H b=some y0/\y0≠.dead/\(∀q o,BR ι q y0 o->BR (upd ι c ρ) q y o)/\∀t,y0=.rows t []->y=.rows t [])
  (hlo:Y.lo=s.lo) (X:Y.ro=s.ro) (hrb:Y.rb=s.rb) (hnb:s.nb<=O) (hc:c<O) (hd:vu n dst=true)
  (h1:∀b q,b≠c->ι b=some (some q)->w'.heap[q.r]?=w.heap[q.r]?) (h2:BW (upd ι c ρ) w' c blk) (h3:∀q,ρ=some q->q.r<w'.heap.size/\(∀b q',b≠c->ι b=some (some q')->q'.r≠q.r)/\
   ((∃q0,ι0 c=some (some q0)/\q0.r=q.r)\/w0.w.heap.size<=q.r)/\q.fz=false) (h4:w.heap.size<=w'.heap.size) (h5:Fr (roI ι0 s.ro) w0.w w') (h6:∀q,ι0 c=some q->s.rb<=c)
  (hv:VR (upd ι c ρ) v x):Inv n ι0 w0 (upd ι c ρ) (Y.app dst (some v) [(c,blk)] O) (a.put dst x) w':=by
 have C:∀b,b≠c->upd ι c ρ b=ι b:=λb E=>by simp [upd,E]
 have F:upd ι c ρ c=some ρ:=by simp [upd]
 refine ⟨by rw [nE];exact J.size,by rw [jJ];exact J.defers,hT.app J.size hd (λu hu=>by cases hu;exact hv),⟨λb b' q q' Z U e3=>?_,λb q e=>?_,λb q e=>?_,λb y hl Q=>?_⟩,λb q e=>?_,λb q e=>?_,?_,?_,λb q e hq=>?_,by simp only [St.app,X];exact J.gl⟩
 ·by_cases E:b=c
  ·by_cases G:b'=c
   ·exact .inl (by rw [E,G])
   ·subst E;rw [F] at Z;rw [C b' G] at U;simp only [au] at Z;exact absurd e3.symm ((h3 q Z).2.1 b' q' G U)
  ·rw [C b E] at Z;by_cases G:b'=c
   ·subst G;rw [F] at U;simp only [au] at U;exact absurd e3 ((h3 q' U).2.1 b q E Z)
   ·rw [C b' G] at U;exact J.mem.inj b b' q q' Z U e3
 ·by_cases E:b=c
  ·rw [E];exact hc
  ·rw [C b E] at e;have:=J.mem.low b q e;exact rD this hnb
 ·by_cases E:b=c
  ·subst E;rw [F] at e;simp only [au] at e;exact (h3 q e).1
  ·rw [C b E] at e;exact rD (J.mem.dom b q e) h4
 ·simp only [St.app,fg,dX,aV] at hl;split at hl
  ·rename_i e;subst e;simp only [au] at hl;subst hl;exact h2
  ·rename_i W;obtain ⟨y0,g1,g2,g3,g4⟩:=hH b y (λe=>W e.symm) hl Q;exact (J.mem.blk b y0 g1 g2).map (C b (λe=>W e.symm)) (λq hq=>h1 b q (λe=>W e.symm) hq) g3 g4
 ·by_cases E:b=c
  ·subst E;exact .inr (by simp only [St.app,hrb];exact h6 q e)
  ·rw [C b E];simp only [St.app,hrb];exact J.ext b q e
 ·by_cases E:b=c
  ·subst E;rw [F] at e;simp only [au] at e;exact (h3 q e).2.2.1
  ·rw [C b E] at e;exact J.new b q e
 ·simp only [St.app,X];exact h5
 ·simp only [St.app,hlo];exact J.low
 ·simp only [St.app,X];by_cases E:b=c
  ·subst E;rw [F] at e;simp only [au] at e;have:=(h3 q e).2.2.2;rw [this] at hq;cases hq
  ·rw [C b E] at e;exact J.fz b q e hq
theorem PK {b c:Nat} (h:isIn [c] b=false):b≠c:=by
 rintro rfl;simp [isIn] at h
theorem zA {ι:Inj} {c:Nat} {ρ:Option Rf}:∀b,isIn [c] b=false->∀q,ι b=some q->upd ι c ρ b=some q:=by
 intro b d q a;have:=PK d;simp [upd,this,a]
theorem pm {o:Oper} {a:Act} {w:World} {args:Array Operand} {b:Array TypeId} {x y:Operand} {t d:TypeId} {X:Value} {w':World} (f:o.op=.call ⟨.builtin .append,args,b⟩) (hx:args.toList=[x,y]) (i:b.toList=[t,d])
  (h:∀g,(Builtin.append_ #[t,d] g #[a.eval x,a.eval y]).run P w=.ok X w'):(execOp a.eval o).run P w=.ok (.value X) w':=by
 have e:args.map a.eval=#[a.eval x,a.eval y]:=by apply lG;simp [hx]
 have c:b=#[t,d]:=by apply lG;simp [i]
 simp only [execOp,f,resolve,e,c,aw,aD,az,invoke,builtin,h]
theorem uD {o:Oper} {a:Act} {w w':World} {X:Value} (h:(execOp a.eval o).run P w=.ok (.value X) w') {next:Act->World->Prop} {Q:Exit->Act->World->Prop} (b:next (a.put o.dst X) w'):o.wp P a w next Q:=by
 unfold Oper.wp;rw [h];exact b
theorem M3 {a cap b:Nat} (d:a<=dE) (h:cap<a) (e:b<=1048576):Builtin.nextslicecap a cap*b<=281474976710656:=by
 have d:a<=67108864:=d;have key:Builtin.nextslicecap a cap<=2*a+768:=by
  have f:∀(m c:Nat),c<=2*a+768->Builtin.growBy a m c<=2*a+768:=by
   intro m
   induction m with
   | zero=>intro c hc;exact hc
   | succ m ih=>
    intro c hc;unfold Builtin.growBy;split
    ·exact hc
    ·exact ih _ (by omega)
  unfold Builtin.nextslicecap;split
  ·omega
  ·split
   ·omega
   ·exact f 4 cap (by omega)
 have g:=FR (show Builtin.nextslicecap a cap<=134218496 by omega) e;exact qX g (by decide)
theorem Hl {ι:Inj} {tr:List Lf} {l m:List (den tr)} {e:TypeId} {zc:Array Value} {cap r:Nat} (f:zc.size=tr.length) (a:l.length+m.length<=cap):
  BR ι (Rf.of r (l.length+m.length) cap) (.rows tr (l++m)) (.cells ((l.flatMap (vals tr)++m.flatMap (vals tr)).toArray++Builtin.zeroCells zc (cap - (l.length+m.length))) e):=by
 have d:=oz (t:=tr) l;have c:=oz (t:=tr) m;have b:(Builtin.zeroCells zc (cap - (l.length+m.length))).size=(cap - (l.length+m.length))*tr.length:=by simp [Builtin.zeroCells,f]
 refine ⟨_,e,(0,0),rfl,by simp,a,?_,?_,.inr (tg _)⟩
 ·simp only [Array.size_append,b,wx,bg,d,c];rw [<-gY,<-gY,da];exact oS _ (by omega)
 ·rw [xE,bg,gY,NY];have:l.length*tr.length+m.length*tr.length=(l.flatMap (vals tr)++m.flatMap (vals tr)).length:=by rw [bg,d,c]
  rw [this];exact By
theorem zY {tr:List Lf} {e:TypeId} (h:Pm P tr e=true):∃i z,P.info? e=some i/\i.zero=some z/\z.cells.size=tr.length/\tr.length=i.size/\0<tr.length/\i.bytes<=1048576:=by
 unfold Pm at h;split at h
 ·rename_i i hi;split at h
  ·rename_i z d;simp only [aA,jn] at h;obtain ⟨f,g,a,b⟩:=h;have c:i.size=P.cellsOf e:=by unfold Program.cellsOf;rw [hi];rfl
   have a:0<P.cellsOf e:=aJ a;exact ⟨i,z,hi,d,by omega,by omega,by omega,aJ b⟩
  ·cases h
 ·cases h
theorem Jj {α:Type} {n fr:Nat} {ι0 ι:Inj} {w0:Base} {s:St} {o:Oper} {a:Act} {w:World} {args:Array Operand} {tys:Array TypeId} (ho:o.op=.call ⟨.builtin .append,args,tys⟩) (d:Inv n ι0 w0 ι s a w)
  (V:ι fr=none) (hge:s.nb<=fr) {k:St->Option α} {z:α} (h:FK P n fr o.dst args.toList tys.toList s k=some z)
  {next:Act->World->Prop} {Q:Exit->Act->World->Prop} (hn:∀s' ι' a' w',k s'=some z->Inv n ι0 w0 ι' s' a' w'->next a' w'):o.wp P a w next Q:=by
 unfold FK at h;split at h
 case h_2=>cases h
 rename_i x y t t2 hd hx ht;split at h
 case h_2=>cases h
 rename_i e L;obtain ⟨u,hu,U⟩:=av h;obtain ⟨v,hv,g⟩:=av U;clear h U;have E:=bA d.tmps hu;have hY:=bA d.tmps hv;have hfr0:∀q,ι0 fr=some q->s.rb<=fr:=by
  intro q F;rcases d.ext fr q F with h | h
  ·rw [V] at h;cases h
  ·exact h
 split at g
 ·
  simp only [VR] at E;split at g
  case h_2=>cases g
  rename_i tr _;split at g
  case h_2=>cases g
  rename_i I;obtain ⟨i,zv,hi,hz,k1,k2,k3,k4⟩:=zY I;obtain ⟨m,hm,g⟩:=av g;obtain ⟨C,g⟩:=dY g;have C:=aJ C;have hle':m.length<=67108864:=C;have A:=LU d.mem hY hm k2;have hTm:=d.tmps.mono (pQ (r:=none) V);have B:∀{ρ:Option Rf} b y,b≠fr->look s.H b=some y->y≠.dead->∃R,look s.H b=some R/\R≠.dead/\(∀q o,BR ι q R o->BR (upd ι fr ρ) q y o)/\∀t,R=.rows t []->y=.rows t []:=
   λb y _ W hdd=>⟨y,W,hdd,λq o hb=>BR.mono (pQ V) hb,λ_ h=>h⟩
  by_cases h0:m.length=0
  ·have hm0:m=[]:=uc h0;subst hm0;have f:=pm (P:=P) (X:=.slice none 0 0) (w':=w) ho hx ht λty=>by
    rw [E];have:=run_append_nothing (P:=P) w t t2 ty e i L hi none 0 0 (aY _) (a.eval y) (by simpa using A);simpa using this
   refine uD f (hn _ (upd ι fr none) _ _ g (Inv.rebind d hTm B rfl rfl rfl (EP _ _) (by omega) hd (λ_ _ _ _=>rfl) (.inr ⟨dD _ _ _,tr,rfl⟩) (λq F=>by cases F) (aY _) d.fr hfr0 ?_));unfold VR;exact .inr ⟨dD _ _ _,_,rfl⟩
  ·have M:m.length<=grownCap w m.length 0 e:=by simp only [grownCap,Question.cut];omega
   have f:=pm (P:=P) (X:=.slice (some ⟨w.heap.size,0,none⟩) m.length (grownCap w m.length 0 e))
     (w':=w.drew.alloc (.cells ((m.flatMap (vals tr)).toArray++Builtin.zeroCells zv.cells (grownCap w m.length 0 e - m.length)) e)) ho hx ht λty=>by
    rw [E];have:=run_append_grow_src (P:=P) w t t2 ty e i zv L hi hz none 0 0 [] (run_firstCells_none _ _ _ _ _) (a.eval y) m.length _ A (by omega) (by omega) (M3 (by simpa using C) (by omega) k4);simpa using this
   refine uD f (hn _ (upd ι fr (some (Rf.of w.heap.size (m.length) (grownCap w m.length 0 e)))) _ _ g (Inv.rebind d (d.tmps.mono (pQ V)) B rfl rfl rfl (EP _ _) (by omega) hd (λb q hb F=>?_)
    (.inl ⟨_,_,dD _ _ _,jW _ _,?_⟩) (λq F=>?_) (by show w.heap.size<=(w.heap.push _).size;simp) (by exact (d.fr.draws (w.drawn+1)).alloc _) hfr0 ?_))
   ·exact ka _ _ (BC (d.mem.dom b q F))
   ·have:=Hl (ι:=upd ι fr (some (Rf.of w.heap.size (m.length) (grownCap w m.length 0 e)))) (tr:=tr) (l:=[]) (m:=m) (e:=e) (zc:=zv.cells) (cap:=grownCap w m.length 0 e) (r:=w.heap.size) k1 (by simpa using M);simpa using this
   ·simp only [au] at F;subst F;refine ⟨by show w.heap.size<(w.heap.push _).size;simp,λb q' _ hq'=>BC (d.mem.dom b q' hq'),.inr d.fr.size,rfl⟩
   ·simp only [VR];exact .inl ⟨_,dD _ _ _,rfl⟩
 ·rename_i c;simp only [VR] at E;split at g
  case h_2=>cases g
  rename_i tr l hb;split at g
  case h_2=>cases g
  rename_i I;simp only [aA] at I;obtain ⟨I,K,D⟩:=I;have K:=aJ K;have D:=aJ D;obtain ⟨i,zv,hi,hz,k1,k2,k3,k4⟩:=zY I;obtain ⟨m,hm,g⟩:=av g;obtain ⟨C,g⟩:=dY g;have C:=aJ C;have hle':l.length+m.length<=67108864:=C;have A:=LU d.mem hY hm k2;have hTk:∀{ρ:Option Rf},TR (upd ι c ρ) (s.kill [c]).T a.tmps:=by
   intro ρ;rw [St.kill_eq];exact d.tmps.kill zA
  have B:∀{ρ:Option Rf} b y,b≠c->look (s.kill [c]).H b=some y->y≠.dead->∃R,look s.H b=some R/\R≠.dead/\(∀q o,BR ι q R o->BR (upd ι c ρ) q y o)/\∀t,R=.rows t []->y=.rows t []:=by
   intro ρ b y Z W hdd;rw [St.kill_eq] at W;simp only [vc] at W;cases hy:look s.H b with
   | none=>rw [hy] at W;cases W
   | some R=>
    rw [hy] at W;simp only [fb,au] at W;subst W;exact ⟨R,rfl,by rintro rfl;exact hdd rfl,λq o hbr=>BR.kill zA hbr,by rintro t rfl;rfl⟩
  have hlo:(s.kill [c]).lo=s.lo:=by rw [St.kill_eq]
  have hro:(s.kill [c]).ro=s.ro:=by rw [St.kill_eq]
  have hrb:(s.kill [c]).rb=s.rb:=by rw [St.kill_eq]
  have hcn:c<s.nb:=by
   rcases d.mem.blk c _ hb (by simp) with ⟨q,_,h1,_⟩ | ⟨h1,_⟩
   ·exact d.mem.low c _ h1
   ·exact d.mem.low c _ h1
  have grow:∀{base:Option Addr} {cp:Nat},a.eval x=.slice base l.length cp->(Builtin.firstCells i.size l.length (.slice base l.length cp)).run P w.drew=.ok (l.flatMap (vals tr)).toArray w.drew->cp<l.length+m.length->o.wp P a w next Q:=by
   intro base cp E hold hlt;have M:l.length+m.length<=grownCap w (l.length+m.length) cp e:=by simp only [grownCap,Question.cut];omega
   have f:=pm (P:=P) (X:=.slice (some ⟨w.heap.size,0,none⟩) (l.length+m.length) (grownCap w (l.length+m.length) cp e))
     (w':=w.drew.alloc (.cells ((l.flatMap (vals tr)++m.flatMap (vals tr)).toArray++Builtin.zeroCells zv.cells (grownCap w (l.length+m.length) cp e - (l.length+m.length))) e)) ho hx ht λty=>by
    rw [E];exact run_append_grow_src (P:=P) w t t2 ty e i zv L hi hz base l.length cp _ hold (a.eval y) m.length _ A hlt (by omega) (M3 C hlt k4)
   refine uD f (hn _ (upd ι c (some (Rf.of w.heap.size (l.length+m.length) (grownCap w (l.length+m.length) cp e)))) _ _ g (Inv.rebind d hTk B hlo hro hrb (aY _) hcn hd (λb q hb F=>?_)
    (.inl ⟨_,_,dD _ _ _,jW _ _,Hl k1 M⟩) (λq F=>?_) (by show w.heap.size<=(w.heap.push _).size;simp) (by exact (d.fr.draws (w.drawn+1)).alloc _) (λ_ _=>D) ?_))
   ·exact ka _ _ (BC (d.mem.dom b q F))
   ·simp only [au] at F;subst F;refine ⟨by show w.heap.size<(w.heap.push _).size;simp,λb q' _ hq'=>BC (d.mem.dom b q' hq'),.inr d.fr.size,rfl⟩
   ·simp only [VR];exact .inl ⟨_,dD _ _ _,rfl⟩
  rcases jE d.mem hb with ⟨q,S,e',fz,U,g2,g4,g5,g6,g7,g8⟩ | ⟨U,rfl⟩
  ·rcases E with ⟨q',J,E⟩ | ⟨J,_⟩
   ·rw [J] at U;cases U;have Y:q.fz=false:=by
     cases hc:q.fz with
     | false=>rfl
     | true=>have:=d.fz c q J hc;omega
    have g8:=g8.resolve_left (by rw [Y];simp);by_cases G:q.n+m.length<=q.k
    ·have hmz:=oz (t:=tr) m;have hbound:q.o+q.n*tr.length+m.length*tr.length<=S.size:=by
      have h1:=oS tr.length G;rw [gY] at h1;omega
     have N:∀j,j<(m.flatMap (vals tr)).length->w.cell? ⟨q.r,q.o+q.n*i.size+j,none⟩=S[q.o+q.n*tr.length+j]?:=by
      intro j hj;rw [bw g2,<-k2]
     have hfz:∀j,j<(m.flatMap (vals tr)).length->w.frozen? ⟨q.r,q.o+q.n*i.size+j,none⟩=false:=by
      intro j hj;exact ru g2 g8 (by rw [<-k2];omega)
     have hst:=kR (P:=P) q.r (q.o+q.n*i.size) e' fz (m.flatMap (vals tr)) 0 S w g2 g8 (by rw [hmz,<-k2];omega) wn;have O:=run_storeCells_cells (P:=P) q.r (q.o+q.n*i.size) (m.flatMap (vals tr)) 0 w (by
      intro j hj;rw [cP,N j hj];simp;omega) (by intro j hj;rw [cP];exact hfz j hj) wn
     have hw:w.setCells q.r (q.o+q.n*i.size) (m.flatMap (vals tr))=setObj w q.r (.cells (splA S (q.o+q.n*tr.length) (m.flatMap (vals tr))) e' fz):=by
      rw [hst] at O;simp only [cP,yq,jN,<-k2] at O;rw [<-k2];exact O.symm
     have f:=pm (P:=P) (X:=.slice (some ⟨q.r,q.o,none⟩) (q.n+m.length) q.k) (w':=setObj w q.r (.cells (splA S (q.o+q.n*tr.length) (m.flatMap (vals tr))) e' fz)) ho hx ht λty=>by
      rw [E,<-hw];exact run_append_room_src (P:=P) w t t2 ty e i L hi q.r q.o q.n q.k (a.eval y) m.length _ A G (λj hj=>by rw [N j hj];simp;omega) hfz
     have hssz:(splA S (q.o+q.n*tr.length) (m.flatMap (vals tr))).size=S.size:=xk (by rw [hmz];exact hbound)
     refine uD f (hn _ (upd ι c (some ⟨q.r,q.n+m.length,q.k,q.o,q.fz⟩)) _ _ g (Inv.rebind d hTk B hlo hro hrb (aY _) hcn hd (λb p Z hp=>sW _ λer=>Z ((d.mem.inj c b q p J hp er).resolve_right λhh=>by rw [Y] at hh;cases hh.1).symm)
      (.inl ⟨_,_,dD _ _ _,yy g2,⟨_,e',fz,rfl,by simp [g4],G,by rw [hssz];exact g6,?_,.inr (by rw [hssz];exact g8)⟩⟩) (λp hp=>?_) (by simp [setObj]) ?_ (λ_ _=>D) ?_))
     ·show ((splA S (q.o+q.n*tr.length) (m.flatMap (vals tr))).toList.drop q.o).take _=_;rw [CH (by omega),bg,g4,NY,<-g7,g4];have hdl:(S.toList.drop q.o).length=S.size - q.o:=by simp
      rw [gY,<-fN,vq (by rw [bg,dG,hdl,hmz];omega)];rw [jd (by rw [bg,dG,hdl,hmz];omega)]
     ·simp only [au] at hp;subst hp;refine ⟨by have:=d.mem.dom c q J;simpa [setObj] using this,λb p' Z hp' er=>Z ((d.mem.inj b c p' q hp' J er).resolve_right λhh=>by rw [Y] at hh;cases hh.2),d.new c q J,Y⟩
     ·exact d.fr.write ((d.new c q J).imp (λ⟨q0,h,hr⟩=>⟨c,q0,CU h K,hr⟩) id) _
     ·simp only [VR];exact .inl ⟨_,dD _ _ _,rfl⟩
    ·refine grow (base:=some ⟨q.r,q.o,none⟩) (cp:=q.k) (by rw [E,g4]) ?_ (by omega);have hfl:=oz (t:=tr) l;exact run_firstCells_some w.drew i.size l.length ⟨q.r,q.o,none⟩ l.length q.k _ (by rw [hfl,k2]) (Bv (off:=0) (w:=w.drew) g2 (m:=l.length*tr.length) (by rw [g7,bV,ma]))
   ·rw [J] at U;cases U
  ·rcases E with ⟨q',J,E⟩ | ⟨J,ao,E⟩
   ·rw [J] at U;cases U
   ·by_cases h0:m.length=0
    ·have hm0:m=[]:=uc h0;subst hm0;have f:=pm (P:=P) (X:=.slice ao 0 0) (w':=w) ho hx ht λty=>by
      rw [E];have:=run_append_nothing (P:=P) w t t2 ty e i L hi ao 0 0 (aY _) (a.eval y) (by simpa using A);simpa using this
     refine uD f (hn _ (upd ι c none) _ _ g (Inv.rebind d hTk B hlo hro hrb (aY _) hcn hd (λ_ _ _ _=>rfl) (.inr ⟨dD _ _ _,tr,rfl⟩) (λq F=>by cases F) (aY _) d.fr (λ_ _=>D) ?_));unfold VR;exact .inr ⟨dD _ _ _,_,rfl⟩
    ·exact grow (base:=ao) (cp:=0) (by rw [E];rfl) (IP _ _ _) (by simp;omega)
 ·cases g
theorem AW {α:Type} {E:List Ent} (H:∀x∈E,f9 P x) {n fr:Nat} {ι0 ι:Inj} {w0:Base} {s:St} {o:Oper} {a:Act} {w:World} (B:Inv n ι0 w0 ι s a w)
  (m:∀b,fr<=b->ι b=none) (D:s.nb<=fr) {k:St->Option α} {I:V->St->Option α} {z:α} (h:NZ P E n fr o s k I=some z)
  {next:Act->World->Prop} {Q:Exit->Act->World->Prop}
  (A:∀s' c j w',k s'=some z->Inv n ι0 w0 c s' j w'->next j w')
  (hp:∀v s' c x j w',I v s'=some z->VR c v x->Inv n ι0 w0 c s' j w'->Q (.panic [{ v:=x,recovered:=false }]) j w'):
  o.wp P a w next Q:=by
 unfold NZ at h;split at h
 ·rename_i J y;split at h
  ·rename_i g d;split at h
   ·rename_i f cap N O;obtain ⟨l,R,h⟩:=av h;obtain ⟨r,u,K⟩:=wm H h;split at u
    ·cases u
    rename_i q;simp only [aA] at q;obtain ⟨p,args,C⟩:=J;simp only at d;subst d;refine BJ y B (λb M _=>m b M) N O R q.1 q.2 (K _ λ_ _=>rfl) (λi c j w' _ t=>?_) (λi c x w' L t=>?_)
    ·rw [i] at u;exact A _ c j w' u t
    ·rw [i] at u;exact hp _ _ c x a w' u L t
   ·cases h
  ·rename_i d;obtain ⟨p,args,C⟩:=J;simp only at d;subst d;exact Jj y B (m fr (aY _)) D h A
  ·exact GQ H B (λb G _=>m b G) h (λs' _ _ _ c j w' F _ e=>A s' c j w' F e) hp
 ·exact GQ H B (λb G _=>m b G) h (λs' _ _ _ c j w' F _ e=>A s' c j w' F e) hp
end Go.Abs
