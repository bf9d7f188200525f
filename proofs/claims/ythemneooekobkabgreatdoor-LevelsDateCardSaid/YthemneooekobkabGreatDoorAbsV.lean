
/- append, and calls that move rows.
   Conditions: none; generic over the program. -/
import Derived.Test.YthemneooekobkabGreatDoorAbsN
import Derived.Deep.Upon
set_option linter.unusedSimpArgs false
set_option linter.unusedVariables false
namespace Go.Abs
variable {P:Program}
theorem If:∀{t:List Lf} {x:den t},∀u∈vals t x,u.oneCell'=true
 | [],_,u,h=>by simp [vals] at h
 | [a],x,u,h=>by
  simp only [vals,nX] at h;subst h;cases a<;>rfl
 | a::b::l,x,u,h=>by
  simp only [vals,cf] at h;rcases h with rfl | h
  ·cases a<;>rfl
  ·exact If (t:=b::l) u (by simpa using h)
theorem wi {t:List Lf} {l:List (den t)}:∀u∈l.flatMap (vals t),u.oneCell'=true:=by
 intro u h;obtain ⟨x,_,hx⟩:=FB.1 h;exact If u hx
theorem m9 {t a:List Lf} {l:List (den t)} {m:List (den a)} (h:lZ t a l=some m):∃e:t=a,m=e▸l:=by
 unfold lZ at h;split at h
 ·rename_i e;simp only [av] at h;exact ⟨e,h.symm⟩
 ·cases h
theorem Cf {w:World} {r:Nat} {f:Array Value} {e:TypeId} {fr:Nat×Nat} (h:w.heap[r]?=some (.cells f e fr)) {off o:Nat} {news:List Value} {m:Nat} (g:(((f.toList.drop o).take m).drop off).take news.length=news):
  ∀j u,news[j]?=some u->w.cell? ((⟨r,o+off,none⟩:Addr).add j)=some u:=by
 intro j u c;have d:j<news.length:=by
  rcases aH j news.length with b | b
  ·exact b
  ·rw [gU b] at c;cases c
 rw [nl,bv h];have a:=cK (λq:List Value=>q[j]?) g;simp only [qE d,mY,c] at a;by_cases i:off+j<m
 ·rw [qE i,mY] at a;simpa [ib] using a
 ·rw [gU (by rw [dq];omega)] at a;cases a
theorem Src.empty {w:World} {size:Nat} {C O:TypeId} (E:P.underlying C=some (.slice O)) (F:Option Addr):Src P size C (.slice F 0 0) 0 [] w:=by
 cases F with
 | none=>exact Src.ofNil w E 0
 | some a=>exact Src.ofSlice w E a 0 0 [] (by simp) (λj u G=>by simp at G) (λu J=>by cases J)
theorem I1 (size:Nat) (b:Option Addr) (w:World):(Builtin.firstCells size 0 (.slice b 0 0)).run P w=.ok #[] w:=by
 cases b with
 | none=>exact run_firstCells_none _ _ _ _ _
 | some a=>exact run_firstCells_some w size 0 a 0 0 [] (by simp) (λj u c=>by simp at c)
theorem Lp {ι:Inj} {H:List (Nat×Blk)} {nb:Nat} {w:World} (B:WR ι H nb w) {b:V} {Y:Value} (f:VR ι b Y) {tr:List Lf} {z:TypeId} {m:List (den tr)} (h:srcK P H tr z b=some m)
  {size:Nat} (hs:tr.length=size):Src P size z Y m.length (m.flatMap (vals tr)) w:=by
 unfold srcK at h;split at h
 ·rename_i e g;split at h
  ·simp only [av] at h;subst h;simp only [VR] at f;subst f;exact Src.ofNil w g 0
  ·rename_i c;split at h
   case h_2=>cases h
   rename_i t l s;obtain ⟨rfl,rfl⟩:=m9 h;simp only [VR] at f;rcases jz B s with ⟨q,L,D,fr,a,o,A,J,K,p,_⟩ | ⟨a,rfl⟩
   ·rcases f with ⟨I,d,rfl⟩ | ⟨d,_⟩
    ·rw [d] at a;cases a;rw [<-A];refine Src.ofSlice w g _ _ _ _ (by rw [om,hs]) (Cf (off:=0) o (m:=m.length*t.length) ?_) wi;rw [p,cw,mE]
    ·rw [d] at a;cases a
   ·rcases f with ⟨q,d,_⟩ | ⟨d,y,rfl⟩
    ·rw [d] at a;cases a
    ·exact Src.empty g y
  ·rename_i N c j n _;split at h
   case h_2=>cases h
   rename_i t l s;split at h
   case h_2=>cases h
   rename_i v;have v:=bC v;obtain ⟨k,h⟩:=dZ h;have k:=aL k;obtain ⟨rfl,rfl⟩:=m9 h;have r:((l.drop j).take n).length=n:=by rw [dq,bP];omega
   simp only [VR] at f;rw [r];rcases f with ⟨q,cp,off,d,M,C,rfl⟩ | ⟨d,⟨rfl,_⟩,y,rfl⟩
   ·rcases jz B s with ⟨I,L,D,fr,a,o,A,J,K,p,_⟩ | ⟨a,rfl⟩
    ·rw [d] at a;cases a;refine Src.ofSlice w g _ _ _ _ (by rw [om,r,hs]) ?_ wi;by_cases x:0<n
     ·rw [C x,v];refine Cf o (m:=l.length*t.length) ?_;rw [p,<-yc,om,r,<-wP]
     ·have x:n=0:=by omega
      subst x;intro j u G;simp at G
    ·rw [d] at a;cases a
   ·simp only [mM,List.flatMap_nil];exact Src.empty g y
  ·cases h
 ·rename_i g;split at h
  case h_2=>cases h
  rename_i l;obtain ⟨rfl,rfl⟩:=m9 h;simp only [VR] at f;subst f;simp only [aE,bH] at hs;subst hs;have:=Src.ofString (P:=P) w g ⟨l.toArray⟩;have F:byteCells ⟨l.toArray⟩=(l.map λb=>((b.toNat:Nat):Int)).flatMap (vals [.i .u8]):=by
   rw [sd];simp [byteCells]
  have E:(ByteArray.mk l.toArray).size=(l.map λb=>((b.toNat:Nat):Int)).length:=by rw [tM];rfl
  rw [F,E] at this;exact this
 ·cases h
theorem Inv.rebind {n:Nat} {ι0 ι:Inj} {w0:Base} {w w':World} {s Z:St} {a:Act} {c X:Nat} {ρ:Option Rf} {blk:Blk} {v:V} {x:Value} {dst:Option Nat} (J:Inv n ι0 w0 ι s a w)
  (hT:TR (upd ι c ρ) Z.T a.tmps) (hH:∀b y,b≠c->look Z.H b=some y->y≠.dead->∃y0,look s.H b=some y0/\y0≠.dead/\(∀q o,BR ι q y0 o->BR (upd ι c ρ) q y o)/\∀t,y0=.rows t []->y=.rows t [])
  (hlo:Z.lo=s.lo) (W:Z.ro=s.ro) (hrb:Z.rb=s.rb) (hnb:s.nb<=X) (hc:c<X) (hd:vc n dst=true)
  (h1:∀b q,b≠c->ι b=some (some q)->w'.heap[q.r]?=w.heap[q.r]?) (h2:BW (upd ι c ρ) w' c blk) (h3:∀q,ρ=some q->q.r<w'.heap.size/\(∀b q',b≠c->ι b=some (some q')->q'.r≠q.r)/\
   ((∃q0,ι0 c=some (some q0)/\q0.r=q.r)\/w0.w.heap.size<=q.r)/\q.fz=false) (h4:w.heap.size<=w'.heap.size) (h5:Fr (roI ι0 s.ro) w0.w w') (h6:∀q,ι0 c=some q->s.rb<=c)
  (hv:VR (upd ι c ρ) v x):Inv n ι0 w0 (upd ι c ρ) (Z.app dst (some v) [(c,blk)] X) (a.put dst x) w':=by
 have C:∀b,b≠c->upd ι c ρ b=ι b:=λb E=>by simp [upd,E]
 have F:upd ι c ρ c=some ρ:=by simp [upd]
 refine ⟨by rw [nz];exact J.size,by rw [jx];exact J.defers,hT.app J.size hd (λu hu=>by cases hu;exact hv),⟨λb b' q q' Y U e3=>?_,λb q e=>?_,λb q e=>?_,λb y hl O=>?_⟩,λb q e=>?_,λb q e=>?_,?_,?_,λb q e hq=>?_,by simp only [St.app,W];exact J.gl⟩
 ·by_cases E:b=c
  ·by_cases G:b'=c
   ·exact .inl (by rw [E,G])
   ·subst E;rw [F] at Y;rw [C b' G] at U;simp only [av] at Y;exact absurd e3.symm ((h3 q Y).2.1 b' q' G U)
  ·rw [C b E] at Y;by_cases G:b'=c
   ·subst G;rw [F] at U;simp only [av] at U;exact absurd e3 ((h3 q' U).2.1 b q E Y)
   ·rw [C b' G] at U;exact J.mem.inj b b' q q' Y U e3
 ·by_cases E:b=c
  ·rw [E];exact hc
  ·rw [C b E] at e;have:=J.mem.low b q e;exact oL this hnb
 ·by_cases E:b=c
  ·subst E;rw [F] at e;simp only [av] at e;exact (h3 q e).1
  ·rw [C b E] at e;exact oL (J.mem.dom b q e) h4
 ·simp only [St.app,eW,dJ,aY] at hl;split at hl
  ·rename_i e;subst e;simp only [av] at hl;subst hl;exact h2
  ·rename_i Q;obtain ⟨y0,g1,g2,g3,g4⟩:=hH b y (λe=>Q e.symm) hl O;exact (J.mem.blk b y0 g1 g2).map (C b (λe=>Q e.symm)) (λq hq=>h1 b q (λe=>Q e.symm) hq) g3 g4
 ·by_cases E:b=c
  ·subst E;exact .inr (by simp only [St.app,hrb];exact h6 q e)
  ·rw [C b E];simp only [St.app,hrb];exact J.ext b q e
 ·by_cases E:b=c
  ·subst E;rw [F] at e;simp only [av] at e;exact (h3 q e).2.2.1
  ·rw [C b E] at e;exact J.new b q e
 ·simp only [St.app,W];exact h5
 ·simp only [St.app,hlo];exact J.low
 ·simp only [St.app,W];by_cases E:b=c
  ·subst E;rw [F] at e;simp only [av] at e;have:=(h3 q e).2.2.2;rw [this] at hq;cases hq
  ·rw [C b E] at e;exact J.fz b q e hq
theorem Pn {b c:Nat} (h:isIn [c] b=false):b≠c:=by
 rintro rfl;simp [isIn] at h
theorem zN {ι:Inj} {c:Nat} {ρ:Option Rf}:∀b,isIn [c] b=false->∀q,ι b=some q->upd ι c ρ b=some q:=by
 intro b d q a;have:=Pn d;simp [upd,this,a]
theorem pj {o:Oper} {a:Act} {w:World} {args:Array Operand} {b:Array TypeId} {x y:Operand} {t c:TypeId} {X:Value} {w':World} (i:o.op=.call ⟨.builtin .append,args,b⟩) (hx:args.toList=[x,y]) (e:b.toList=[t,c])
  (h:∀g,(Builtin.append_ #[t,c] g #[a.eval x,a.eval y]).run P w=.ok X w'):(execOp a.eval o).run P w=.ok (.value X) w':=by
 have f:args.map a.eval=#[a.eval x,a.eval y]:=by apply lh;simp [hx]
 have d:b=#[t,c]:=by apply lh;simp [e]
 simp only [execOp,i,resolve,f,d,ax,aD,az,invoke,builtin,h]
theorem tY {o:Oper} {a:Act} {w w':World} {X:Value} (h:(execOp a.eval o).run P w=.ok (.value X) w') {next:Act->World->Prop} {Q:Exit->Act->World->Prop} (b:next (a.put o.dst X) w'):o.wp P a w next Q:=by
 unfold Oper.wp;rw [h];exact b
theorem Lm {a cap b:Nat} (d:a<=eV) (h:cap<a) (g:b<=1048576):Builtin.nextslicecap a cap*b<=281474976710656:=by
 have d:a<=67108864:=d;have key:Builtin.nextslicecap a cap<=2*a+768:=by
  have f:∀(m c:Nat),c<=2*a+768->Builtin.growBy a m c<=2*a+768:=by
   intro m
   induction m with
   | zero=>intro c hc;exact hc
   | succ m ih=>
    intro c hc;unfold Builtin.growBy;split
    ·exact hc
    ·exact ih _ (by omega)
  unfold Builtin.nextslicecap;split
  ·omega
  ·split
   ·omega
   ·exact f 4 cap (by omega)
 have e:=wN (show Builtin.nextslicecap a cap<=134218496 by omega) g;exact qR e (by decide)
theorem IB {ι:Inj} {tr:List Lf} {l m:List (den tr)} {e:TypeId} {zc:Array Value} {cap r:Nat} (f:zc.size=tr.length) (a:l.length+m.length<=cap):
  BR ι (Rf.of r (l.length+m.length) cap) (.rows tr (l++m)) (.cells ((l.flatMap (vals tr)++m.flatMap (vals tr)).toArray++Builtin.zeroCells zc (cap - (l.length+m.length))) e):=by
 have c:=om (t:=tr) l;have d:=om (t:=tr) m;have b:(Builtin.zeroCells zc (cap - (l.length+m.length))).size=(cap - (l.length+m.length))*tr.length:=by simp [Builtin.zeroCells,f]
 refine ⟨_,e,(0,0),rfl,by simp,a,?_,?_,.inr (ta _)⟩
 ·simp only [Array.size_append,b,yn,aR,c,d];rw [<-gW,<-gW,dk];exact oC _ (by omega)
 ·rw [wF,aR,gW,Nw];have:l.length*tr.length+m.length*tr.length=(l.flatMap (vals tr)++m.flatMap (vals tr)).length:=by rw [aR,c,d]
  rw [this];exact BC
theorem zL {tr:List Lf} {e:TypeId} (h:PQ P tr e=true):∃i z,P.info? e=some i/\i.zero=some z/\z.cells.size=tr.length/\tr.length=i.size/\0<tr.length/\i.bytes<=1048576:=by
 unfold PQ at h;split at h
 ·rename_i i hi;split at h
  ·rename_i z d;simp only [aA,jk] at h;obtain ⟨g,f,a,c⟩:=h;have b:i.size=P.cellsOf e:=by unfold Program.cellsOf;rw [hi];rfl
   have a:0<P.cellsOf e:=aL a;exact ⟨i,z,hi,d,by omega,by omega,by omega,aL c⟩
  ·cases h
 ·cases h
theorem Jy {α:Type} {n fr:Nat} {ι0 ι:Inj} {w0:Base} {s:St} {o:Oper} {a:Act} {w:World} {args:Array Operand} {tys:Array TypeId} (ho:o.op=.call ⟨.builtin .append,args,tys⟩) (d:Inv n ι0 w0 ι s a w)
  (hfr:ι fr=none) (hge:s.nb<=fr) {k:St->Option α} {z:α} (h:FQ P n fr o.dst args.toList tys.toList s k=some z)
  {next:Act->World->Prop} {Q:Exit->Act->World->Prop} (hn:∀s' ι' a' w',k s'=some z->Inv n ι0 w0 ι' s' a' w'->next a' w'):o.wp P a w next Q:=by
 unfold FQ at h;split at h
 case h_2=>cases h
 rename_i x y t t2 hd hx ht;split at h
 case h_2=>cases h
 rename_i e K;obtain ⟨u,hu,U⟩:=aw h;obtain ⟨v,hv,g⟩:=aw U;clear h U;have G:=bA d.tmps hu;have hY:=bA d.tmps hv;have hfr0:∀q,ι0 fr=some q->s.rb<=fr:=by
  intro q E;rcases d.ext fr q E with h | h
  ·rw [hfr] at h;cases h
  ·exact h
 split at g
 ·
  simp only [VR] at G;split at g
  case h_2=>cases g
  rename_i tr _;split at g
  case h_2=>cases g
  rename_i I;obtain ⟨i,zv,hi,hz,k1,k2,k3,k4⟩:=zL I;obtain ⟨m,hm,g⟩:=aw g;obtain ⟨C,g⟩:=dZ g;have C:=aL C;have hle':m.length<=67108864:=C;have B:=Lp d.mem hY hm k2;have hTm:=d.tmps.mono (pT (r:=none) hfr);have A:∀{ρ:Option Rf} b y,b≠fr->look s.H b=some y->y≠.dead->∃R,look s.H b=some R/\R≠.dead/\(∀q o,BR ι q R o->BR (upd ι fr ρ) q y o)/\∀t,R=.rows t []->y=.rows t []:=
   λb y _ Y hdd=>⟨y,Y,hdd,λq o hb=>BR.mono (pT hfr) hb,λ_ h=>h⟩
  by_cases h0:m.length=0
  ·have hm0:m=[]:=ur h0;subst hm0;have f:=pj (P:=P) (X:=.slice none 0 0) (w':=w) ho hx ht λZ=>by
    rw [G];have:=run_append_nothing (P:=P) w t t2 Z e i K hi none 0 0 (aV _) (a.eval y) (by simpa using B);simpa using this
   refine tY f (hn _ (upd ι fr none) _ _ g (Inv.rebind d hTm A rfl rfl rfl (F3 _ _) (by omega) hd (λ_ _ _ _=>rfl) (.inr ⟨dF _ _ _,tr,rfl⟩) (λq E=>by cases E) (aV _) d.fr hfr0 ?_));unfold VR;exact .inr ⟨dF _ _ _,_,rfl⟩
  ·have M:m.length<=grownCap w m.length 0 e:=by simp only [grownCap,Question.cut];omega
   have f:=pj (P:=P) (X:=.slice (some ⟨w.heap.size,0,none⟩) m.length (grownCap w m.length 0 e))
     (w':=w.drew.alloc (.cells ((m.flatMap (vals tr)).toArray++Builtin.zeroCells zv.cells (grownCap w m.length 0 e - m.length)) e)) ho hx ht λZ=>by
    rw [G];have:=run_append_grow_src (P:=P) w t t2 Z e i zv K hi hz none 0 0 [] (run_firstCells_none _ _ _ _ _) (a.eval y) m.length _ B (by omega) (by omega) (Lm (by simpa using C) (by omega) k4);simpa using this
   refine tY f (hn _ (upd ι fr (some (Rf.of w.heap.size (m.length) (grownCap w m.length 0 e)))) _ _ g (Inv.rebind d (d.tmps.mono (pT hfr)) A rfl rfl rfl (F3 _ _) (by omega) hd (λb q hb E=>?_)
    (.inl ⟨_,_,dF _ _ _,jK _ _,?_⟩) (λq E=>?_) (by show w.heap.size<=(w.heap.push _).size;simp) (by exact (d.fr.draws (w.drawn+1)).alloc _) hfr0 ?_))
   ·exact jS _ _ (BG (d.mem.dom b q E))
   ·have:=IB (ι:=upd ι fr (some (Rf.of w.heap.size (m.length) (grownCap w m.length 0 e)))) (tr:=tr) (l:=[]) (m:=m) (e:=e) (zc:=zv.cells) (cap:=grownCap w m.length 0 e) (r:=w.heap.size) k1 (by simpa using M);simpa using this
   ·simp only [av] at E;subst E;refine ⟨by show w.heap.size<(w.heap.push _).size;simp,λb q' _ hq'=>BG (d.mem.dom b q' hq'),.inr d.fr.size,rfl⟩
   ·simp only [VR];exact .inl ⟨_,dF _ _ _,rfl⟩
 ·rename_i c;simp only [VR] at G;split at g
  case h_2=>cases g
  rename_i tr l hb;split at g
  case h_2=>cases g
  rename_i I;simp only [aA] at I;obtain ⟨I,L,D⟩:=I;have L:=aL L;have D:=aL D;obtain ⟨i,zv,hi,hz,k1,k2,k3,k4⟩:=zL I;obtain ⟨m,hm,g⟩:=aw g;obtain ⟨C,g⟩:=dZ g;have C:=aL C;have hle':l.length+m.length<=67108864:=C;have B:=Lp d.mem hY hm k2;have hTk:∀{ρ:Option Rf},TR (upd ι c ρ) (s.kill [c]).T a.tmps:=by
   intro ρ;rw [St.kill_eq];exact d.tmps.kill zN
  have A:∀{ρ:Option Rf} b y,b≠c->look (s.kill [c]).H b=some y->y≠.dead->∃R,look s.H b=some R/\R≠.dead/\(∀q o,BR ι q R o->BR (upd ι c ρ) q y o)/\∀t,R=.rows t []->y=.rows t []:=by
   intro ρ b y hbc Y hdd;rw [St.kill_eq] at Y;simp only [vh] at Y;cases hy:look s.H b with
   | none=>rw [hy] at Y;cases Y
   | some R=>
    rw [hy] at Y;simp only [fa,av] at Y;subst Y;exact ⟨R,rfl,by rintro rfl;exact hdd rfl,λq o hbr=>BR.kill zN hbr,by rintro t rfl;rfl⟩
  have hlo:(s.kill [c]).lo=s.lo:=by rw [St.kill_eq]
  have hro:(s.kill [c]).ro=s.ro:=by rw [St.kill_eq]
  have hrb:(s.kill [c]).rb=s.rb:=by rw [St.kill_eq]
  have hcn:c<s.nb:=by
   rcases d.mem.blk c _ hb (by simp) with ⟨q,_,h1,_⟩ | ⟨h1,_⟩
   ·exact d.mem.low c _ h1
   ·exact d.mem.low c _ h1
  have grow:∀{base:Option Addr} {cp:Nat},a.eval x=.slice base l.length cp->(Builtin.firstCells i.size l.length (.slice base l.length cp)).run P w.drew=.ok (l.flatMap (vals tr)).toArray w.drew->cp<l.length+m.length->o.wp P a w next Q:=by
   intro base cp G hold hlt;have M:l.length+m.length<=grownCap w (l.length+m.length) cp e:=by simp only [grownCap,Question.cut];omega
   have f:=pj (P:=P) (X:=.slice (some ⟨w.heap.size,0,none⟩) (l.length+m.length) (grownCap w (l.length+m.length) cp e))
     (w':=w.drew.alloc (.cells ((l.flatMap (vals tr)++m.flatMap (vals tr)).toArray++Builtin.zeroCells zv.cells (grownCap w (l.length+m.length) cp e - (l.length+m.length))) e)) ho hx ht λZ=>by
    rw [G];exact run_append_grow_src (P:=P) w t t2 Z e i zv K hi hz base l.length cp _ hold (a.eval y) m.length _ B hlt (by omega) (Lm C hlt k4)
   refine tY f (hn _ (upd ι c (some (Rf.of w.heap.size (l.length+m.length) (grownCap w (l.length+m.length) cp e)))) _ _ g (Inv.rebind d hTk A hlo hro hrb (aV _) hcn hd (λb q hb E=>?_)
    (.inl ⟨_,_,dF _ _ _,jK _ _,IB k1 M⟩) (λq E=>?_) (by show w.heap.size<=(w.heap.push _).size;simp) (by exact (d.fr.draws (w.drawn+1)).alloc _) (λ_ _=>D) ?_))
   ·exact jS _ _ (BG (d.mem.dom b q E))
   ·simp only [av] at E;subst E;refine ⟨by show w.heap.size<(w.heap.push _).size;simp,λb q' _ hq'=>BG (d.mem.dom b q' hq'),.inr d.fr.size,rfl⟩
   ·simp only [VR];exact .inl ⟨_,dF _ _ _,rfl⟩
  rcases jz d.mem hb with ⟨q,S,e',fz,U,g2,g4,g5,g6,g7,g8⟩ | ⟨U,rfl⟩
  ·rcases G with ⟨q',J,G⟩ | ⟨J,_⟩
   ·rw [J] at U;cases U;have V:q.fz=false:=by
     cases hc:q.fz with
     | false=>rfl
     | true=>have:=d.fz c q J hc;omega
    have g8:=g8.resolve_left (by rw [V];simp);by_cases F:q.n+m.length<=q.k
    ·have W:=om (t:=tr) m;have hbound:q.o+q.n*tr.length+m.length*tr.length<=S.size:=by
      have h1:=oC tr.length F;rw [gW] at h1;omega
     have O:∀j,j<(m.flatMap (vals tr)).length->w.cell? ⟨q.r,q.o+q.n*i.size+j,none⟩=S[q.o+q.n*tr.length+j]?:=by
      intro j hj;rw [bv g2,<-k2]
     have hfz:∀j,j<(m.flatMap (vals tr)).length->w.frozen? ⟨q.r,q.o+q.n*i.size+j,none⟩=false:=by
      intro j hj;exact qZ g2 g8 (by rw [<-k2];omega)
     have hst:=kC (P:=P) q.r (q.o+q.n*i.size) e' fz (m.flatMap (vals tr)) 0 S w g2 g8 (by rw [W,<-k2];omega) wi;have N:=run_storeCells_cells (P:=P) q.r (q.o+q.n*i.size) (m.flatMap (vals tr)) 0 w (by
      intro j hj;rw [cP,O j hj];simp;omega) (by intro j hj;rw [cP];exact hfz j hj) wi
     have hw:w.setCells q.r (q.o+q.n*i.size) (m.flatMap (vals tr))=setObj w q.r (.cells (splA S (q.o+q.n*tr.length) (m.flatMap (vals tr))) e' fz):=by
      rw [hst] at N;simp only [cP,xj,jG,<-k2] at N;rw [<-k2];exact N.symm
     have f:=pj (P:=P) (X:=.slice (some ⟨q.r,q.o,none⟩) (q.n+m.length) q.k) (w':=setObj w q.r (.cells (splA S (q.o+q.n*tr.length) (m.flatMap (vals tr))) e' fz)) ho hx ht λZ=>by
      rw [G,<-hw];exact run_append_room_src (P:=P) w t t2 Z e i K hi q.r q.o q.n q.k (a.eval y) m.length _ B F (λj hj=>by rw [O j hj];simp;omega) hfz
     have hssz:(splA S (q.o+q.n*tr.length) (m.flatMap (vals tr))).size=S.size:=xc (by rw [W];exact hbound)
     refine tY f (hn _ (upd ι c (some ⟨q.r,q.n+m.length,q.k,q.o,q.fz⟩)) _ _ g (Inv.rebind d hTk A hlo hro hrb (aV _) hcn hd (λb p hbc hp=>sL _ λer=>hbc ((d.mem.inj c b q p J hp er).resolve_right λhh=>by rw [V] at hh;cases hh.1).symm)
      (.inl ⟨_,_,dF _ _ _,yv g2,⟨_,e',fz,rfl,by simp [g4],F,by rw [hssz];exact g6,?_,.inr (by rw [hssz];exact g8)⟩⟩) (λp hp=>?_) (by simp [setObj]) ?_ (λ_ _=>D) ?_))
     ·show ((splA S (q.o+q.n*tr.length) (m.flatMap (vals tr))).toList.drop q.o).take _=_;rw [EH (by omega),aR,g4,Nw,<-g7,g4];have hdl:(S.toList.drop q.o).length=S.size - q.o:=by simp
      rw [gW,<-fK,vq (by rw [aR,dq,hdl,W];omega)];rw [jf (by rw [aR,dq,hdl,W];omega)]
     ·simp only [av] at hp;subst hp;refine ⟨by have:=d.mem.dom c q J;simpa [setObj] using this,λb p' hbc hp' er=>hbc ((d.mem.inj b c p' q hp' J er).resolve_right λhh=>by rw [V] at hh;cases hh.2),d.new c q J,V⟩
     ·exact d.fr.write ((d.new c q J).imp (λ⟨q0,h,hr⟩=>⟨c,q0,Dw h L,hr⟩) id) _
     ·simp only [VR];exact .inl ⟨_,dF _ _ _,rfl⟩
    ·refine grow (base:=some ⟨q.r,q.o,none⟩) (cp:=q.k) (by rw [G,g4]) ?_ (by omega);have hfl:=om (t:=tr) l;exact run_firstCells_some w.drew i.size l.length ⟨q.r,q.o,none⟩ l.length q.k _ (by rw [hfl,k2]) (Cf (off:=0) (w:=w.drew) g2 (m:=l.length*tr.length) (by rw [g7,cw,mE]))
   ·rw [J] at U;cases U
  ·rcases G with ⟨q',J,G⟩ | ⟨J,ao,G⟩
   ·rw [J] at U;cases U
   ·by_cases h0:m.length=0
    ·have hm0:m=[]:=ur h0;subst hm0;have f:=pj (P:=P) (X:=.slice ao 0 0) (w':=w) ho hx ht λZ=>by
      rw [G];have:=run_append_nothing (P:=P) w t t2 Z e i K hi ao 0 0 (aV _) (a.eval y) (by simpa using B);simpa using this
     refine tY f (hn _ (upd ι c none) _ _ g (Inv.rebind d hTk A hlo hro hrb (aV _) hcn hd (λ_ _ _ _=>rfl) (.inr ⟨dF _ _ _,tr,rfl⟩) (λq E=>by cases E) (aV _) d.fr (λ_ _=>D) ?_));unfold VR;exact .inr ⟨dF _ _ _,_,rfl⟩
    ·exact grow (base:=ao) (cp:=0) (by rw [G];rfl) (I1 _ _ _) (by simp;omega)
 ·cases g
theorem CH {α:Type} {E:List Ent} (D:∀x∈E,fW P x) {n fr:Nat} {ι0 ι:Inj} {w0:Base} {s:St} {o:Oper} {a:Act} {w:World} (A:Inv n ι0 w0 ι s a w)
  (m:∀b,fr<=b->ι b=none) (C:s.nb<=fr) {k:St->Option α} {J:V->St->Option α} {z:α} (h:MQ P E n fr o s k J=some z)
  {next:Act->World->Prop} {Q:Exit->Act->World->Prop}
  (B:∀s' c i w',k s'=some z->Inv n ι0 w0 c s' i w'->next i w')
  (hp:∀v s' c x i w',J v s'=some z->VR c v x->Inv n ι0 w0 c s' i w'->Q (.panic [{ v:=x,recovered:=false }]) i w'):
  o.wp P a w next Q:=by
 unfold MQ at h;split at h
 ·rename_i I y;split at h
  ·rename_i g d;split at h
   ·rename_i f cap K O;obtain ⟨l,N,h⟩:=aw h;obtain ⟨r,u,R⟩:=wm D h;split at u
    ·cases u
    rename_i q;simp only [aA] at q;obtain ⟨p,args,F⟩:=I;simp only at d;subst d;refine BL y A (λb M _=>m b M) K O N q.1 q.2 (R _ λ_ _=>rfl) (λe c i w' _ t=>?_) (λe c x w' L t=>?_)
    ·rw [e] at u;exact B _ c i w' u t
    ·rw [e] at u;exact hp _ _ c x a w' u L t
   ·cases h
  ·rename_i d;obtain ⟨p,args,F⟩:=I;simp only at d;subst d;exact Jy y A (m fr (aV _)) C h B
  ·exact HZ D A (λb G _=>m b G) h (λs' _ _ _ c i w' H _ j=>B s' c i w' H j) hp
 ·exact HZ D A (λb G _=>m b G) h (λs' _ _ _ c i w' H _ j=>B s' c i w' H j) hp
end Go.Abs
