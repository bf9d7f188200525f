
/- append, and calls that move rows.
   Conditions: none; generic over the program. -/
import Derived.Test.YtfiponokimbeeaaGreatDoorAbsN
import Derived.Deep.Upon
set_option linter.unusedSimpArgs false
set_option linter.unusedVariables false
namespace Go.Abs
variable {P:Program}
theorem E6:∀{t:List Lf} {x:den t},∀u∈vals t x,u.oneCell'=true
 | [],_,u,h=>by simp [vals] at h
 | [a],x,u,h=>by
  simp only [vals,vQ] at h;subst h;cases a<;>rfl
 | a::b::l,x,u,h=>by
  simp only [vals,cf] at h;rcases h with rfl | h
  ·cases a<;>rfl
  ·exact E6 (t:=b::l) u (by simpa using h)
theorem ur {t:List Lf} {l:List (den t)}:∀u∈l.flatMap (vals t),u.oneCell'=true:=by
 intro u h;obtain ⟨x,_,hx⟩:=List.mem_flatMap.1 h;exact E6 u hx
theorem lB {t a:List Lf} {l:List (den t)} {m:List (den a)} (h:kx t a l=some m):∃e:t=a,m=e▸l:=by
 unfold kx at h;split at h
 ·rename_i e;simp only [ak] at h;exact ⟨e,h.symm⟩
 ·cases h
theorem yX {w:World} {r:Nat} {f:Array Value} {e:TypeId} {fr:Nat×Nat} (h:w.heap[r]?=some (.cells f e fr)) {off o:Nat} {news:List Value} {m:Nat} (i:(((f.toList.drop o).take m).drop off).take news.length=news):
  ∀j u,news[j]?=some u->w.cell? ((⟨r,o+off,none⟩:Addr).add j)=some u:=by
 intro j u d;have c:j<news.length:=by
  rcases aF j news.length with b | b
  ·exact b
  ·rw [fX b] at d;cases d
 rw [lw,be h];have a:=bO (λq:List Value=>q[j]?) i;simp only [ov c,ll,d] at a;by_cases g:off+j<m
 ·rw [ov g,ll] at a;simpa [gj] using a
 ·rw [fX (by rw [e7];omega)] at a;cases a
theorem Src.empty {w:World} {size:Nat} {C G:TypeId} (F:P.underlying C=some (.slice G)) (E:Option Addr):Src P size C (.slice E 0 0) 0 [] w:=by
 cases E with
 | none=>exact Src.ofNil w F 0
 | some a=>exact Src.ofSlice w F a 0 0 [] (by simp) (λj u J=>by simp at J) (λu O=>by cases O)
theorem Ge (size:Nat) (b:Option Addr) (w:World):(Builtin.firstCells size 0 (.slice b 0 0)).run P w=.ok #[] w:=by
 cases b with
 | none=>exact run_firstCells_none _ _ _ _ _
 | some a=>exact run_firstCells_some w size 0 a 0 0 [] (by simp) (λj u c=>by simp at c)
theorem Jd {ι:Inj} {H:List (Nat×Blk)} {nb:Nat} {w:World} (A:WR ι H nb w) {b:V} {Y:Value} (f:VR ι b Y) {tr:List Lf} {z:TypeId} {m:List (den tr)} (h:srcK P H tr z b=some m)
  {size:Nat} (hs:tr.length=size):Src P size z Y m.length (m.flatMap (vals tr)) w:=by
 unfold srcK at h;split at h
 ·rename_i e g;split at h
  ·simp only [ak] at h;subst h;simp only [VR] at f;subst f;exact Src.ofNil w g 0
  ·rename_i c;split at h
   case h_2=>cases h
   rename_i t l s;obtain ⟨rfl,rfl⟩:=lB h;simp only [VR] at f;rcases iw A s with ⟨q,E,K,fr,a,r,B,D,C,v,_⟩ | ⟨a,rfl⟩
   ·rcases f with ⟨I,d,rfl⟩ | ⟨d,_⟩
    ·rw [d] at a;cases a;rw [<-B];refine Src.ofSlice w g _ _ _ _ (by rw [my,hs]) (yX (off:=0) r (m:=m.length*t.length) ?_) ur;rw [v,cg,mf]
    ·rw [d] at a;cases a
   ·rcases f with ⟨q,d,_⟩ | ⟨d,y,rfl⟩
    ·rw [d] at a;cases a
    ·exact Src.empty g y
  ·rename_i N c j n _;split at h
   case h_2=>cases h
   rename_i t l s;split at h
   case h_2=>cases h
   rename_i o;have o:=bq o;obtain ⟨k,h⟩:=dr h;have k:=aG k;obtain ⟨rfl,rfl⟩:=lB h;have p:((l.drop j).take n).length=n:=by rw [e7,cu];omega
   simp only [VR] at f;rw [p];rcases f with ⟨q,cp,off,d,M,G,rfl⟩ | ⟨d,⟨rfl,_⟩,y,rfl⟩
   ·rcases iw A s with ⟨I,E,K,fr,a,r,B,D,C,v,_⟩ | ⟨a,rfl⟩
    ·rw [d] at a;cases a;refine Src.ofSlice w g _ _ _ _ (by rw [my,p,hs]) ?_ ur;by_cases x:0<n
     ·rw [G x,o];refine yX r (m:=l.length*t.length) ?_;rw [v,<-vK,my,p,<-vB]
     ·have x:n=0:=by omega
      subst x;intro j u J;simp at J
    ·rw [d] at a;cases a
   ·simp only [jU,List.flatMap_nil];exact Src.empty g y
  ·cases h
 ·rename_i g;split at h
  case h_2=>cases h
  rename_i l;obtain ⟨rfl,rfl⟩:=lB h;simp only [VR] at f;subst f;simp only [aJ,dm] at hs;subst hs;have:=Src.ofString (P:=P) w g ⟨l.toArray⟩;have L:byteCells ⟨l.toArray⟩=(l.map λb=>((b.toNat:Nat):Int)).flatMap (vals [.i .u8]):=by
   rw [pR];simp [byteCells]
  have F:(ByteArray.mk l.toArray).size=(l.map λb=>((b.toNat:Nat):Int)).length:=by rw [FH];rfl
  rw [L,F] at this;exact this
 ·cases h
theorem Inv.rebind {n:Nat} {ι0 ι:Inj} {w0:Base} {w w':World} {s s1:St} {a:Act} {c X:Nat} {ρ:Option Rf} {blk:Blk} {v:V} {x:Value} {dst:Option Nat} (J:Inv n ι0 w0 ι s a w)
  (hT:TR (upd ι c ρ) s1.T a.tmps) (hH:∀b y,b≠c->look s1.H b=some y->y≠.dead->∃y0,look s.H b=some y0/\y0≠.dead/\(∀q o,BR ι q y0 o->BR (upd ι c ρ) q y o)/\∀t,y0=.rows t []->y=.rows t [])
  (hlo:s1.lo=s.lo) (O:s1.ro=s.ro) (hrb:s1.rb=s.rb) (hnb:s.nb<=X) (hc:c<X) (hd:sq n dst=true)
  (h1:∀b q,b≠c->ι b=some (some q)->w'.heap[q.r]?=w.heap[q.r]?) (h2:BW (upd ι c ρ) w' c blk) (h3:∀q,ρ=some q->q.r<w'.heap.size/\(∀b Z,b≠c->ι b=some (some Z)->Z.r≠q.r)/\
   ((∃q0,ι0 c=some (some q0)/\q0.r=q.r)\/w0.w.heap.size<=q.r)/\q.fz=false) (h4:w.heap.size<=w'.heap.size) (h5:Fr (roI ι0 s.ro) w0.w w') (h6:∀q,ι0 c=some q->s.rb<=c)
  (hv:VR (upd ι c ρ) v x):Inv n ι0 w0 (upd ι c ρ) (s1.app dst (some v) [(c,blk)] X) (a.put dst x) w':=by
 have C:∀b,b≠c->upd ι c ρ b=ι b:=λb E=>by simp [upd,E]
 have F:upd ι c ρ c=some ρ:=by simp [upd]
 refine ⟨by rw [lA];exact J.size,by rw [ip];exact J.defers,hT.app J.size hd (λu hu=>by cases hu;exact hv),⟨λb Y q Z e1 U e3=>?_,λb q e=>?_,λb q e=>?_,λb y hl W=>?_⟩,λb q e=>?_,λb q e=>?_,?_,?_,λb q e hq=>?_,by simp only [St.app,O];exact J.gl⟩
 ·by_cases E:b=c
  ·by_cases G:Y=c
   ·exact .inl (by rw [E,G])
   ·subst E;rw [F] at e1;rw [C Y G] at U;simp only [ak] at e1;exact absurd e3.symm ((h3 q e1).2.1 Y Z G U)
  ·rw [C b E] at e1;by_cases G:Y=c
   ·subst G;rw [F] at U;simp only [ak] at U;exact absurd e3 ((h3 Z U).2.1 b q E e1)
   ·rw [C Y G] at U;exact J.mem.inj b Y q Z e1 U e3
 ·by_cases E:b=c
  ·rw [E];exact hc
  ·rw [C b E] at e;have:=J.mem.low b q e;exact mI this hnb
 ·by_cases E:b=c
  ·subst E;rw [F] at e;simp only [ak] at e;exact (h3 q e).1
  ·rw [C b E] at e;exact mI (J.mem.dom b q e) h4
 ·simp only [St.app,dQ,dn,aN] at hl;split at hl
  ·rename_i e;subst e;simp only [ak] at hl;subst hl;exact h2
  ·rename_i Q;obtain ⟨y0,g1,g2,g3,g4⟩:=hH b y (λe=>Q e.symm) hl W;exact (J.mem.blk b y0 g1 g2).map (C b (λe=>Q e.symm)) (λq hq=>h1 b q (λe=>Q e.symm) hq) g3 g4
 ·by_cases E:b=c
  ·subst E;exact .inr (by simp only [St.app,hrb];exact h6 q e)
  ·rw [C b E];simp only [St.app,hrb];exact J.ext b q e
 ·by_cases E:b=c
  ·subst E;rw [F] at e;simp only [ak] at e;exact (h3 q e).2.2.1
  ·rw [C b E] at e;exact J.new b q e
 ·simp only [St.app,O];exact h5
 ·simp only [St.app,hlo];exact J.low
 ·simp only [St.app,O];by_cases E:b=c
  ·subst E;rw [F] at e;simp only [ak] at e;have:=(h3 q e).2.2.2;rw [this] at hq;cases hq
  ·rw [C b E] at e;exact J.fz b q e hq
theorem Na {b c:Nat} (h:isIn [c] b=false):b≠c:=by
 rintro rfl;simp [isIn] at h
theorem xY {ι:Inj} {c:Nat} {ρ:Option Rf}:∀b,isIn [c] b=false->∀q,ι b=some q->upd ι c ρ b=some q:=by
 intro b d q a;have:=Na d;simp [upd,this,a]
theorem nv {o:Oper} {a:Act} {w:World} {args:Array Operand} {b:Array TypeId} {x y:Operand} {t c:TypeId} {X:Value} {w':World} (i:o.op=.call ⟨.builtin .append,args,b⟩) (hx:args.toList=[x,y]) (e:b.toList=[t,c])
  (h:∀g,(Builtin.append_ #[t,c] g #[a.eval x,a.eval y]).run P w=.ok X w'):(execOp a.eval o).run P w=.ok (.value X) w':=by
 have f:args.map a.eval=#[a.eval x,a.eval y]:=by apply jK;simp [hx]
 have d:b=#[t,c]:=by apply jK;simp [e]
 simp only [execOp,i,resolve,f,d,aw,aD,az,invoke,builtin,h]
theorem rk {o:Oper} {a:Act} {w w':World} {X:Value} (h:(execOp a.eval o).run P w=.ok (.value X) w') {next:Act->World->Prop} {Q:Exit->Act->World->Prop} (b:next (a.put o.dst X) w'):o.wp P a w next Q:=by
 unfold Oper.wp;rw [h];exact b
theorem I6 {a cap b:Nat} (d:a<=gf) (h:cap<a) (g:b<=1048576):Builtin.nextslicecap a cap*b<=281474976710656:=by
 have d:a<=67108864:=d;have key:Builtin.nextslicecap a cap<=2*a+768:=by
  have f:∀(m c:Nat),c<=2*a+768->Builtin.growBy a m c<=2*a+768:=by
   intro m
   induction m with
   | zero=>intro c hc;exact hc
   | succ m ih=>
    intro c hc;unfold Builtin.growBy;split
    ·exact hc
    ·exact ih _ (by omega)
  unfold Builtin.nextslicecap;split
  ·omega
  ·split
   ·omega
   ·exact f 4 cap (by omega)
 have e:=uK (show Builtin.nextslicecap a cap<=134218496 by omega) g;exact qO e (by decide)
theorem FD {ι:Inj} {tr:List Lf} {l m:List (den tr)} {e:TypeId} {zc:Array Value} {cap r:Nat} (f:zc.size=tr.length) (a:l.length+m.length<=cap):
  BR ι (Rf.of r (l.length+m.length) cap) (.rows tr (l++m)) (.cells ((l.flatMap (vals tr)++m.flatMap (vals tr)).toArray++Builtin.zeroCells zc (cap - (l.length+m.length))) e):=by
 have d:=my (t:=tr) l;have c:=my (t:=tr) m;have b:(Builtin.zeroCells zc (cap - (l.length+m.length))).size=(cap - (l.length+m.length))*tr.length:=by simp [Builtin.zeroCells,f]
 refine ⟨_,e,(0,0),rfl,by simp,a,?_,?_,.inr (qD _)⟩
 ·simp only [Array.size_append,b,wx,bE,d,c];rw [<-fY,<-fY,cj];exact mH _ (by omega)
 ·rw [uV,bE,fY,HK];have:l.length*tr.length+m.length*tr.length=(l.flatMap (vals tr)++m.flatMap (vals tr)).length:=by rw [bE,d,c]
  rw [this];exact yj
theorem ye {tr:List Lf} {e:TypeId} (h:Np P tr e=true):∃i z,P.info? e=some i/\i.zero=some z/\z.cells.size=tr.length/\tr.length=i.size/\0<tr.length/\i.bytes<=1048576:=by
 unfold Np at h;split at h
 ·rename_i i hi;split at h
  ·rename_i z b;simp only [aB,ig] at h;obtain ⟨f,g,a,c⟩:=h;have d:i.size=P.cellsOf e:=by unfold Program.cellsOf;rw [hi];rfl
   have a:0<P.cellsOf e:=aG a;exact ⟨i,z,hi,b,by omega,by omega,by omega,aG c⟩
  ·cases h
 ·cases h
theorem G0 {α:Type} {n fr:Nat} {ι0 ι:Inj} {w0:Base} {s:St} {o:Oper} {a:Act} {w:World} {args:Array Operand} {tys:Array TypeId} (ho:o.op=.call ⟨.builtin .append,args,tys⟩) (d:Inv n ι0 w0 ι s a w)
  (V:ι fr=none) (hge:s.nb<=fr) {k:St->Option α} {z:α} (h:DI P n fr o.dst args.toList tys.toList s k=some z)
  {next:Act->World->Prop} {Q:Exit->Act->World->Prop} (hn:∀s' ι' a' w',k s'=some z->Inv n ι0 w0 ι' s' a' w'->next a' w'):o.wp P a w next Q:=by
 unfold DI at h;split at h
 case h_2=>cases h
 rename_i x y t t2 hd hx ht;split at h
 case h_2=>cases h
 rename_i e L;obtain ⟨u,hu,U⟩:=au h;obtain ⟨v,hv,g⟩:=au U;clear h U;have E:=bh d.tmps hu;have hY:=bh d.tmps hv;have hfr0:∀q,ι0 fr=some q->s.rb<=fr:=by
  intro q F;rcases d.ext fr q F with h | h
  ·rw [V] at h;cases h
  ·exact h
 split at g
 ·
  simp only [VR] at E;split at g
  case h_2=>cases g
  rename_i tr _;split at g
  case h_2=>cases g
  rename_i I;obtain ⟨i,zv,hi,hz,k1,k2,k3,k4⟩:=ye I;obtain ⟨m,hm,g⟩:=au g;obtain ⟨C,g⟩:=dr g;have C:=aG C;have hle':m.length<=67108864:=C;have A:=Jd d.mem hY hm k2;have hTm:=d.tmps.mono (nG (r:=none) V);have B:∀{ρ:Option Rf} b y,b≠fr->look s.H b=some y->y≠.dead->∃N,look s.H b=some N/\N≠.dead/\(∀q o,BR ι q N o->BR (upd ι fr ρ) q y o)/\∀t,N=.rows t []->y=.rows t []:=
   λb y _ Y hdd=>⟨y,Y,hdd,λq o hb=>BR.mono (nG V) hb,λ_ h=>h⟩
  by_cases h0:m.length=0
  ·have hm0:m=[]:=pq h0;subst hm0;have f:=nv (P:=P) (X:=.slice none 0 0) (w':=w) ho hx ht λZ=>by
    rw [E];have:=run_append_nothing (P:=P) w t t2 Z e i L hi none 0 0 (aQ _) (a.eval y) (by simpa using A);simpa using this
   refine rk f (hn _ (upd ι fr none) _ _ g (Inv.rebind d hTm B rfl rfl rfl (Dk _ _) (by omega) hd (λ_ _ _ _=>rfl) (.inr ⟨cX _ _ _,tr,rfl⟩) (λq F=>by cases F) (aQ _) d.fr hfr0 ?_));unfold VR;exact .inr ⟨cX _ _ _,_,rfl⟩
  ·have R:m.length<=grownCap w m.length 0 e:=by simp only [grownCap,Question.cut];omega
   have f:=nv (P:=P) (X:=.slice (some ⟨w.heap.size,0,none⟩) m.length (grownCap w m.length 0 e))
     (w':=w.drew.alloc (.cells ((m.flatMap (vals tr)).toArray++Builtin.zeroCells zv.cells (grownCap w m.length 0 e - m.length)) e)) ho hx ht λZ=>by
    rw [E];have:=run_append_grow_src (P:=P) w t t2 Z e i zv L hi hz none 0 0 [] (run_firstCells_none _ _ _ _ _) (a.eval y) m.length _ A (by omega) (by omega) (I6 (by simpa using C) (by omega) k4);simpa using this
   refine rk f (hn _ (upd ι fr (some (Rf.of w.heap.size (m.length) (grownCap w m.length 0 e)))) _ _ g (Inv.rebind d (d.tmps.mono (nG V)) B rfl rfl rfl (Dk _ _) (by omega) hd (λb q hb F=>?_)
    (.inl ⟨_,_,cX _ _ _,iQ _ _,?_⟩) (λq F=>?_) (by show w.heap.size<=(w.heap.push _).size;simp) (by exact (d.fr.draws (w.drawn+1)).alloc _) hfr0 ?_))
   ·exact iU _ _ (zJ (d.mem.dom b q F))
   ·have:=FD (ι:=upd ι fr (some (Rf.of w.heap.size (m.length) (grownCap w m.length 0 e)))) (tr:=tr) (l:=[]) (m:=m) (e:=e) (zc:=zv.cells) (cap:=grownCap w m.length 0 e) (r:=w.heap.size) k1 (by simpa using R);simpa using this
   ·simp only [ak] at F;subst F;refine ⟨by show w.heap.size<(w.heap.push _).size;simp,λb q' _ hq'=>zJ (d.mem.dom b q' hq'),.inr d.fr.size,rfl⟩
   ·simp only [VR];exact .inl ⟨_,cX _ _ _,rfl⟩
 ·rename_i c;simp only [VR] at E;split at g
  case h_2=>cases g
  rename_i tr l hb;split at g
  case h_2=>cases g
  rename_i I;simp only [aB] at I;obtain ⟨I,O,D⟩:=I;have O:=aG O;have D:=aG D;obtain ⟨i,zv,hi,hz,k1,k2,k3,k4⟩:=ye I;obtain ⟨m,hm,g⟩:=au g;obtain ⟨C,g⟩:=dr g;have C:=aG C;have hle':l.length+m.length<=67108864:=C;have A:=Jd d.mem hY hm k2;have hTk:∀{ρ:Option Rf},TR (upd ι c ρ) (s.kill [c]).T a.tmps:=by
   intro ρ;rw [St.kill_eq];exact d.tmps.kill xY
  have B:∀{ρ:Option Rf} b y,b≠c->look (s.kill [c]).H b=some y->y≠.dead->∃N,look s.H b=some N/\N≠.dead/\(∀q o,BR ι q N o->BR (upd ι c ρ) q y o)/\∀t,N=.rows t []->y=.rows t []:=by
   intro ρ b y W Y hdd;rw [St.kill_eq] at Y;simp only [sF] at Y;cases hy:look s.H b with
   | none=>rw [hy] at Y;cases Y
   | some N=>
    rw [hy] at Y;simp only [dU,ak] at Y;subst Y;exact ⟨N,rfl,by rintro rfl;exact hdd rfl,λq o hbr=>BR.kill xY hbr,by rintro t rfl;rfl⟩
  have hlo:(s.kill [c]).lo=s.lo:=by rw [St.kill_eq]
  have hro:(s.kill [c]).ro=s.ro:=by rw [St.kill_eq]
  have hrb:(s.kill [c]).rb=s.rb:=by rw [St.kill_eq]
  have hcn:c<s.nb:=by
   rcases d.mem.blk c _ hb (by simp) with ⟨q,_,h1,_⟩ | ⟨h1,_⟩
   ·exact d.mem.low c _ h1
   ·exact d.mem.low c _ h1
  have grow:∀{base:Option Addr} {cp:Nat},a.eval x=.slice base l.length cp->(Builtin.firstCells i.size l.length (.slice base l.length cp)).run P w.drew=.ok (l.flatMap (vals tr)).toArray w.drew->cp<l.length+m.length->o.wp P a w next Q:=by
   intro base cp E hold hlt;have R:l.length+m.length<=grownCap w (l.length+m.length) cp e:=by simp only [grownCap,Question.cut];omega
   have f:=nv (P:=P) (X:=.slice (some ⟨w.heap.size,0,none⟩) (l.length+m.length) (grownCap w (l.length+m.length) cp e))
     (w':=w.drew.alloc (.cells ((l.flatMap (vals tr)++m.flatMap (vals tr)).toArray++Builtin.zeroCells zv.cells (grownCap w (l.length+m.length) cp e - (l.length+m.length))) e)) ho hx ht λZ=>by
    rw [E];exact run_append_grow_src (P:=P) w t t2 Z e i zv L hi hz base l.length cp _ hold (a.eval y) m.length _ A hlt (by omega) (I6 C hlt k4)
   refine rk f (hn _ (upd ι c (some (Rf.of w.heap.size (l.length+m.length) (grownCap w (l.length+m.length) cp e)))) _ _ g (Inv.rebind d hTk B hlo hro hrb (aQ _) hcn hd (λb q hb F=>?_)
    (.inl ⟨_,_,cX _ _ _,iQ _ _,FD k1 R⟩) (λq F=>?_) (by show w.heap.size<=(w.heap.push _).size;simp) (by exact (d.fr.draws (w.drawn+1)).alloc _) (λ_ _=>D) ?_))
   ·exact iU _ _ (zJ (d.mem.dom b q F))
   ·simp only [ak] at F;subst F;refine ⟨by show w.heap.size<(w.heap.push _).size;simp,λb q' _ hq'=>zJ (d.mem.dom b q' hq'),.inr d.fr.size,rfl⟩
   ·simp only [VR];exact .inl ⟨_,cX _ _ _,rfl⟩
  rcases iw d.mem hb with ⟨q,S,e',fz,U,g2,g4,g5,g6,g7,g8⟩ | ⟨U,rfl⟩
  ·rcases E with ⟨q',J,E⟩ | ⟨J,_⟩
   ·rw [J] at U;cases U;have hqz:q.fz=false:=by
     cases hc:q.fz with
     | false=>rfl
     | true=>have:=d.fz c q J hc;omega
    have g8:=g8.resolve_left (by rw [hqz];simp);by_cases G:q.n+m.length<=q.k
    ·have hmz:=my (t:=tr) m;have hbound:q.o+q.n*tr.length+m.length*tr.length<=S.size:=by
      have h1:=mH tr.length G;rw [fY] at h1;omega
     have K:∀j,j<(m.flatMap (vals tr)).length->w.cell? ⟨q.r,q.o+q.n*i.size+j,none⟩=S[q.o+q.n*tr.length+j]?:=by
      intro j hj;rw [be g2,<-k2]
     have hfz:∀j,j<(m.flatMap (vals tr)).length->w.frozen? ⟨q.r,q.o+q.n*i.size+j,none⟩=false:=by
      intro j hj;exact oS g2 g8 (by rw [<-k2];omega)
     have hst:=jv (P:=P) q.r (q.o+q.n*i.size) e' fz (m.flatMap (vals tr)) 0 S w g2 g8 (by rw [hmz,<-k2];omega) ur;have M:=run_storeCells_cells (P:=P) q.r (q.o+q.n*i.size) (m.flatMap (vals tr)) 0 w (by
      intro j hj;rw [bZ,K j hj];simp;omega) (by intro j hj;rw [bZ];exact hfz j hj) ur
     have hw:w.setCells q.r (q.o+q.n*i.size) (m.flatMap (vals tr))=setObj w q.r (.cells (splA S (q.o+q.n*tr.length) (m.flatMap (vals tr))) e' fz):=by
      rw [hst] at M;simp only [bZ,wJ,ku,<-k2] at M;rw [<-k2];exact M.symm
     have f:=nv (P:=P) (X:=.slice (some ⟨q.r,q.o,none⟩) (q.n+m.length) q.k) (w':=setObj w q.r (.cells (splA S (q.o+q.n*tr.length) (m.flatMap (vals tr))) e' fz)) ho hx ht λZ=>by
      rw [E,<-hw];exact run_append_room_src (P:=P) w t t2 Z e i L hi q.r q.o q.n q.k (a.eval y) m.length _ A G (λj hj=>by rw [K j hj];simp;omega) hfz
     have hssz:(splA S (q.o+q.n*tr.length) (m.flatMap (vals tr))).size=S.size:=vw (by rw [hmz];exact hbound)
     refine rk f (hn _ (upd ι c (some ⟨q.r,q.n+m.length,q.k,q.o,q.fz⟩)) _ _ g (Inv.rebind d hTk B hlo hro hrb (aQ _) hcn hd (λb p W hp=>qs _ λer=>W ((d.mem.inj c b q p J hp er).resolve_right λhh=>by rw [hqz] at hh;cases hh.1).symm)
      (.inl ⟨_,_,cX _ _ _,vH g2,⟨_,e',fz,rfl,by simp [g4],G,by rw [hssz];exact g6,?_,.inr (by rw [hssz];exact g8)⟩⟩) (λp hp=>?_) (by simp [setObj]) ?_ (λ_ _=>D) ?_))
     ·show ((splA S (q.o+q.n*tr.length) (m.flatMap (vals tr))).toList.drop q.o).take _=_;rw [Bz (by omega),bE,g4,HK,<-g7,g4];have hdl:(S.toList.drop q.o).length=S.size - q.o:=by simp
      rw [fY,<-fN,sV (by rw [bE,e7,hdl,hmz];omega)];rw [jc (by rw [bE,e7,hdl,hmz];omega)]
     ·simp only [ak] at hp;subst hp;refine ⟨by have:=d.mem.dom c q J;simpa [setObj] using this,λb p' W hp' er=>W ((d.mem.inj b c p' q hp' J er).resolve_right λhh=>by rw [hqz] at hh;cases hh.2),d.new c q J,hqz⟩
     ·exact d.fr.write ((d.new c q J).imp (λ⟨q0,h,hr⟩=>⟨c,q0,AK h O,hr⟩) id) _
     ·simp only [VR];exact .inl ⟨_,cX _ _ _,rfl⟩
    ·refine grow (base:=some ⟨q.r,q.o,none⟩) (cp:=q.k) (by rw [E,g4]) ?_ (by omega);have hfl:=my (t:=tr) l;exact run_firstCells_some w.drew i.size l.length ⟨q.r,q.o,none⟩ l.length q.k _ (by rw [hfl,k2]) (yX (off:=0) (w:=w.drew) g2 (m:=l.length*tr.length) (by rw [g7,cg,mf]))
   ·rw [J] at U;cases U
  ·rcases E with ⟨q',J,E⟩ | ⟨J,ao,E⟩
   ·rw [J] at U;cases U
   ·by_cases h0:m.length=0
    ·have hm0:m=[]:=pq h0;subst hm0;have f:=nv (P:=P) (X:=.slice ao 0 0) (w':=w) ho hx ht λZ=>by
      rw [E];have:=run_append_nothing (P:=P) w t t2 Z e i L hi ao 0 0 (aQ _) (a.eval y) (by simpa using A);simpa using this
     refine rk f (hn _ (upd ι c none) _ _ g (Inv.rebind d hTk B hlo hro hrb (aQ _) hcn hd (λ_ _ _ _=>rfl) (.inr ⟨cX _ _ _,tr,rfl⟩) (λq F=>by cases F) (aQ _) d.fr (λ_ _=>D) ?_));unfold VR;exact .inr ⟨cX _ _ _,_,rfl⟩
    ·exact grow (base:=ao) (cp:=0) (by rw [E];rfl) (Ge _ _ _) (by simp;omega)
 ·cases g
theorem yo {α:Type} {E:List Ent} (C:∀x∈E,ep P x) {n fr:Nat} {ι0 ι:Inj} {w0:Base} {s:St} {o:Oper} {a:Act} {w:World} (A:Inv n ι0 w0 ι s a w)
  (m:∀b,fr<=b->ι b=none) (G:s.nb<=fr) {k:St->Option α} {I:V->St->Option α} {z:α} (h:HY P E n fr o s k I=some z)
  {next:Act->World->Prop} {Q:Exit->Act->World->Prop}
  (B:∀s' c e w',k s'=some z->Inv n ι0 w0 c s' e w'->next e w')
  (hp:∀v s' c x e w',I v s'=some z->VR c v x->Inv n ι0 w0 c s' e w'->Q (.panic [{ v:=x,recovered:=false }]) e w'):
  o.wp P a w next Q:=by
 unfold HY at h;split at h
 ·rename_i J y;split at h
  ·rename_i g d;split at h
   ·rename_i f cap O M;obtain ⟨l,K,h⟩:=au h;obtain ⟨r,u,N⟩:=tY C h;split at u
    ·cases u
    rename_i q;simp only [aB] at q;obtain ⟨p,args,D⟩:=J;simp only at d;subst d;refine yz y A (λb R _=>m b R) O M K q.1 q.2 (N _ λ_ _=>rfl) (λi c e w' _ t=>?_) (λi c x w' L t=>?_)
    ·rw [i] at u;exact B _ c e w' u t
    ·rw [i] at u;exact hp _ _ c x a w' u L t
   ·cases h
  ·rename_i d;obtain ⟨p,args,D⟩:=J;simp only at d;subst d;exact G0 y A (m fr (aQ _)) G h B
  ·exact EQ C A (λb F _=>m b F) h (λs' _ _ _ c e w' H _ j=>B s' c e w' H j) hp
 ·exact EQ C A (λb F _=>m b F) h (λs' _ _ _ c e w' H _ j=>B s' c e w' H j) hp
end Go.Abs
