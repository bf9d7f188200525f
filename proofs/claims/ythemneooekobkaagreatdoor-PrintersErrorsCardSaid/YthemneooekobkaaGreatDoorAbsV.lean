
/- append, and calls that move rows.
   Conditions: none; generic over the program. -/
import Derived.Test.YthemneooekobkaaGreatDoorAbsN
import Derived.Deep.Upon
set_option linter.unusedSimpArgs false
set_option linter.unusedVariables false
namespace Go.Abs
variable {P:Program}
theorem C4:∀{t:List Lf} {x:den t},∀u∈vals t x,u.oneCell'=true
 | [],_,u,h=>by simp [vals] at h
 | [a],x,u,h=>by
  simp only [vals,uB] at h;subst h;cases a<;>rfl
 | a::b::l,x,u,h=>by
  simp only [vals,cA] at h;rcases h with rfl | h
  ·cases a<;>rfl
  ·exact C4 (t:=b::l) u (by simpa using h)
theorem ue {t:List Lf} {l:List (den t)}:∀u∈l.flatMap (vals t),u.oneCell'=true:=by
 intro u h;obtain ⟨x,_,hx⟩:=List.mem_flatMap.1 h;exact C4 u hx
theorem lG {t a:List Lf} {l:List (den t)} {m:List (den a)} (h:kH t a l=some m):∃e:t=a,m=e▸l:=by
 unfold kH at h;split at h
 ·rename_i e;simp only [am] at h;exact ⟨e,h.symm⟩
 ·cases h
theorem xO {w:World} {r:Nat} {f:Array Value} {e:TypeId} {fr:Nat×Nat} (h:w.heap[r]?=some (.cells f e fr)) {off o:Nat} {news:List Value} {m:Nat} (i:(((f.toList.drop o).take m).drop off).take news.length=news):
  ∀j u,news[j]?=some u->w.cell? ((⟨r,o+off,none⟩:Addr).add j)=some u:=by
 intro j u d;have c:j<news.length:=by
  rcases aH j news.length with b | b
  ·exact b
  ·rw [eF b] at d;cases d
 rw [lH,aX h];have a:=gf (λq:List Value=>q[j]?) i;simp only [oc c,ke,d] at a;by_cases g:off+j<m
 ·rw [oc g,ke] at a;simpa [il] using a
 ·rw [eF (by rw [dx];omega)] at a;cases a
theorem Src.empty {w:World} {size:Nat} {E F:TypeId} (C:P.underlying E=some (.slice F)) (A:Option Addr):Src P size E (.slice A 0 0) 0 [] w:=by
 cases A with
 | none=>exact Src.ofNil w C 0
 | some a=>exact Src.ofSlice w C a 0 0 [] (by simp) (λj u G=>by simp at G) (λu J=>by cases J)
theorem fS9 (size:Nat) (b:Option Addr) (w:World):(Builtin.firstCells size 0 (.slice b 0 0)).run P w=.ok #[] w:=by
 cases b with
 | none=>exact run_firstCells_none _ _ _ _ _
 | some a=>exact run_firstCells_some w size 0 a 0 0 [] (by simp) (λj u c=>by simp at c)
theorem GQ {ι:Inj} {H:List (Nat×Blk)} {nb:Nat} {w:World} (A:WR ι H nb w) {b:V} {Y:Value} (f:VR ι b Y) {tr:List Lf} {z:TypeId} {m:List (den tr)} (h:srcK P H tr z b=some m)
  {size:Nat} (hs:tr.length=size):Src P size z Y m.length (m.flatMap (vals tr)) w:=by
 unfold srcK at h;split at h
 ·rename_i e g;split at h
  ·simp only [am] at h;subst h;simp only [VR] at f;subst f;exact Src.ofNil w g 0
  ·rename_i c;split at h
   case h_2=>cases h
   rename_i t l x;obtain ⟨rfl,rfl⟩:=lG h;simp only [VR] at f;rcases iv A x with ⟨q,K,F,fr,a,o,B,G,C,y,_⟩ | ⟨a,rfl⟩
   ·rcases f with ⟨D,d,rfl⟩ | ⟨d,_⟩
    ·rw [d] at a;cases a;rw [<-B];refine Src.ofSlice w g _ _ _ _ (by rw [mB,hs]) (xO (off:=0) o (m:=m.length*t.length) ?_) ue;rw [y,jO,nU]
    ·rw [d] at a;cases a
   ·rcases f with ⟨q,d,_⟩ | ⟨d,v,rfl⟩
    ·rw [d] at a;cases a
    ·exact Src.empty g v
  ·rename_i M c j n _;split at h
   case h_2=>cases h
   rename_i t l x;split at h
   case h_2=>cases h
   rename_i s;have s:=bm s;obtain ⟨k,h⟩:=dk h;have k:=aD k;obtain ⟨rfl,rfl⟩:=lG h;have p:((l.drop j).take n).length=n:=by rw [dx,nh];omega
   simp only [VR] at f;rw [p];rcases f with ⟨q,cp,off,d,N,J,rfl⟩ | ⟨d,⟨rfl,_⟩,v,rfl⟩
   ·rcases iv A x with ⟨D,K,F,fr,a,o,B,G,C,y,_⟩ | ⟨a,rfl⟩
    ·rw [d] at a;cases a;refine Src.ofSlice w g _ _ _ _ (by rw [mB,p,hs]) ?_ ue;by_cases r:0<n
     ·rw [J r,s];refine xO o (m:=l.length*t.length) ?_;rw [y,<-wd,mB,p,<-uL]
     ·have r:n=0:=by omega
      subst r;intro j u I;simp at I
    ·rw [d] at a;cases a
   ·simp only [mI,List.flatMap_nil];exact Src.empty g v
  ·cases h
 ·rename_i g;split at h
  case h_2=>cases h
  rename_i l;obtain ⟨rfl,rfl⟩:=lG h;simp only [VR] at f;subst f;simp only [aS,bg] at hs;subst hs;have:=Src.ofString (P:=P) w g ⟨l.toArray⟩;have L:byteCells ⟨l.toArray⟩=(l.map λb=>((b.toNat:Nat):Int)).flatMap (vals [.i .u8]):=by
   rw [pD];simp [byteCells]
  have E:(ByteArray.mk l.toArray).size=(l.map λb=>((b.toNat:Nat):Int)).length:=by rw [sF];rfl
  rw [L,E] at this;exact this
 ·cases h
theorem Inv.rebind {n:Nat} {ι0 ι:Inj} {w0:Base} {w w':World} {s X:St} {a:Act} {c J:Nat} {ρ:Option Rf} {blk:Blk} {v:V} {x:Value} {dst:Option Nat} (G:Inv n ι0 w0 ι s a w)
  (hT:TR (upd ι c ρ) X.T a.tmps) (hH:∀b y,b≠c->look X.H b=some y->y≠.dead->∃Y,look s.H b=some Y/\Y≠.dead/\(∀q o,BR ι q Y o->BR (upd ι c ρ) q y o)/\∀t,Y=.rows t []->y=.rows t [])
  (hlo:X.lo=s.lo) (Q:X.ro=s.ro) (hrb:X.rb=s.rb) (hnb:s.nb<=J) (hc:c<J) (hd:sD n dst=true)
  (h1:∀b q,b≠c->ι b=some (some q)->w'.heap[q.r]?=w.heap[q.r]?) (h2:BW (upd ι c ρ) w' c blk) (h3:∀q,ρ=some q->q.r<w'.heap.size/\(∀b W,b≠c->ι b=some (some W)->W.r≠q.r)/\
   ((∃q0,ι0 c=some (some q0)/\q0.r=q.r)\/w0.w.heap.size<=q.r)/\q.fz=false) (h4:w.heap.size<=w'.heap.size) (h5:Fr (roI ι0 s.ro) w0.w w') (h6:∀q,ι0 c=some q->s.rb<=c)
  (hv:VR (upd ι c ρ) v x):Inv n ι0 w0 (upd ι c ρ) (X.app dst (some v) [(c,blk)] J) (a.put dst x) w':=by
 have A:∀b,b≠c->upd ι c ρ b=ι b:=λb C=>by simp [upd,C]
 have E:upd ι c ρ c=some ρ:=by simp [upd]
 refine ⟨by rw [lD];exact G.size,by rw [iy];exact G.defers,hT.app G.size hd (λu hu=>by cases hu;exact hv),⟨λb Z q W e1 O e3=>?_,λb q e=>?_,λb q e=>?_,λb y hl U=>?_⟩,λb q e=>?_,λb q e=>?_,?_,?_,λb q e hq=>?_,by simp only [St.app,Q];exact G.gl⟩
 ·by_cases C:b=c
  ·by_cases F:Z=c
   ·exact .inl (by rw [C,F])
   ·subst C;rw [E] at e1;rw [A Z F] at O;simp only [am] at e1;exact absurd e3.symm ((h3 q e1).2.1 Z W F O)
  ·rw [A b C] at e1;by_cases F:Z=c
   ·subst F;rw [E] at O;simp only [am] at O;exact absurd e3 ((h3 W O).2.1 b q C e1)
   ·rw [A Z F] at O;exact G.mem.inj b Z q W e1 O e3
 ·by_cases C:b=c
  ·rw [C];exact hc
  ·rw [A b C] at e;have:=G.mem.low b q e;exact mH this hnb
 ·by_cases C:b=c
  ·subst C;rw [E] at e;simp only [am] at e;exact (h3 q e).1
  ·rw [A b C] at e;exact mH (G.mem.dom b q e) h4
 ·simp only [St.app,ki,ij,aP] at hl;split at hl
  ·rename_i e;subst e;simp only [am] at hl;subst hl;exact h2
  ·rename_i M;obtain ⟨Y,g1,g2,g3,g4⟩:=hH b y (λe=>M e.symm) hl U;exact (G.mem.blk b Y g1 g2).map (A b (λe=>M e.symm)) (λq hq=>h1 b q (λe=>M e.symm) hq) g3 g4
 ·by_cases C:b=c
  ·subst C;exact .inr (by simp only [St.app,hrb];exact h6 q e)
  ·rw [A b C];simp only [St.app,hrb];exact G.ext b q e
 ·by_cases C:b=c
  ·subst C;rw [E] at e;simp only [am] at e;exact (h3 q e).2.2.1
  ·rw [A b C] at e;exact G.new b q e
 ·simp only [St.app,Q];exact h5
 ·simp only [St.app,hlo];exact G.low
 ·simp only [St.app,Q];by_cases C:b=c
  ·subst C;rw [E] at e;simp only [am] at e;have:=(h3 q e).2.2.2;rw [this] at hq;cases hq
  ·rw [A b C] at e;exact G.fz b q e hq
theorem J4 {b c:Nat} (h:isIn [c] b=false):b≠c:=by
 rintro rfl;simp [isIn] at h
theorem wM {ι:Inj} {c:Nat} {ρ:Option Rf}:∀b,isIn [c] b=false->∀q,ι b=some q->upd ι c ρ b=some q:=by
 intro b a q d;have:=J4 a;simp [upd,this,d]
theorem mY {o:Oper} {a:Act} {w:World} {args:Array Operand} {b:Array TypeId} {x y:Operand} {t c:TypeId} {X:Value} {w':World} (f:o.op=.call ⟨.builtin .append,args,b⟩) (hx:args.toList=[x,y]) (e:b.toList=[t,c])
  (h:∀g,(Builtin.append_ #[t,c] g #[a.eval x,a.eval y]).run P w=.ok X w'):(execOp a.eval o).run P w=.ok (.value X) w':=by
 have i:args.map a.eval=#[a.eval x,a.eval y]:=by apply jZ;simp [hx]
 have d:b=#[t,c]:=by apply jZ;simp [e]
 simp only [execOp,f,resolve,i,d,av,az,ax,invoke,builtin,h]
theorem qZ {o:Oper} {a:Act} {w w':World} {X:Value} (h:(execOp a.eval o).run P w=.ok (.value X) w') {next:Act->World->Prop} {Q:Exit->Act->World->Prop} (b:next (a.put o.dst X) w'):o.wp P a w next Q:=by
 unfold Oper.wp;rw [h];exact b
theorem JM {a cap b:Nat} (d:a<=dE) (h:cap<a) (e:b<=1048576):Builtin.nextslicecap a cap*b<=281474976710656:=by
 have d:a<=67108864:=d;have key:Builtin.nextslicecap a cap<=2*a+768:=by
  have f:∀(m c:Nat),c<=2*a+768->Builtin.growBy a m c<=2*a+768:=by
   intro m
   induction m with
   | zero=>intro c hc;exact hc
   | succ m ih=>
    intro c hc;unfold Builtin.growBy;split
    ·exact hc
    ·exact ih _ (by omega)
  unfold Builtin.nextslicecap;split
  ·omega
  ·split
   ·omega
   ·exact f 4 cap (by omega)
 have g:=ui (show Builtin.nextslicecap a cap<=134218496 by omega) e;exact o6 g (by decide)
theorem C6 {ι:Inj} {tr:List Lf} {l m:List (den tr)} {e:TypeId} {zc:Array Value} {cap r:Nat} (f:zc.size=tr.length) (a:l.length+m.length<=cap):
  BR ι (Rf.of r (l.length+m.length) cap) (.rows tr (l++m)) (.cells ((l.flatMap (vals tr)++m.flatMap (vals tr)).toArray++Builtin.zeroCells zc (cap - (l.length+m.length))) e):=by
 have d:=mB (t:=tr) l;have c:=mB (t:=tr) m;have b:(Builtin.zeroCells zc (cap - (l.length+m.length))).size=(cap - (l.length+m.length))*tr.length:=by simp [Builtin.zeroCells,f]
 refine ⟨_,e,(0,0),rfl,by simp,a,?_,?_,.inr (qJ _)⟩
 ·simp only [Array.size_append,b,vU,bB,d,c];rw [<-fL,<-fL,cV];exact mK _ (by omega)
 ·rw [vK,bB,fL,Eo];have:l.length*tr.length+m.length*tr.length=(l.flatMap (vals tr)++m.flatMap (vals tr)).length:=by rw [bB,d,c]
  rw [this];exact List.take_left
theorem wP {tr:List Lf} {e:TypeId} (h:Kx P tr e=true):∃i z,P.info? e=some i/\i.zero=some z/\z.cells.size=tr.length/\tr.length=i.size/\0<tr.length/\i.bytes<=1048576:=by
 unfold Kx at h;split at h
 ·rename_i i hi;split at h
  ·rename_i z b;simp only [ay,io] at h;obtain ⟨g,f,a,c⟩:=h;have d:i.size=P.cellsOf e:=by unfold Program.cellsOf;rw [hi];rfl
   have a:0<P.cellsOf e:=aD a;exact ⟨i,z,hi,b,by omega,by omega,by omega,aD c⟩
  ·cases h
 ·cases h
theorem Gf {α:Type} {n fr:Nat} {ι0 ι:Inj} {w0:Base} {s:St} {o:Oper} {a:Act} {w:World} {args:Array Operand} {tys:Array TypeId} (ho:o.op=.call ⟨.builtin .append,args,tys⟩) (d:Inv n ι0 w0 ι s a w)
  (Y:ι fr=none) (hge:s.nb<=fr) {k:St->Option α} {z:α} (h:BB P n fr o.dst args.toList tys.toList s k=some z)
  {next:Act->World->Prop} {Q:Exit->Act->World->Prop} (hn:∀s' ι' a' w',k s'=some z->Inv n ι0 w0 ι' s' a' w'->next a' w'):o.wp P a w next Q:=by
 unfold BB at h;split at h
 case h_2=>cases h
 rename_i x y t t2 hd hx ht;split at h
 case h_2=>cases h
 rename_i e K;obtain ⟨u,hu,U⟩:=au h;obtain ⟨v,hv,g⟩:=au U;clear h U;have F:=bh d.tmps hu;have hY:=bh d.tmps hv;have hfr0:∀q,ι0 fr=some q->s.rb<=fr:=by
  intro q E;rcases d.ext fr q E with h | h
  ·rw [Y] at h;cases h
  ·exact h
 split at g
 ·
  simp only [VR] at F;split at g
  case h_2=>cases g
  rename_i tr _;split at g
  case h_2=>cases g
  rename_i I;obtain ⟨i,zv,hi,hz,k1,k2,k3,k4⟩:=wP I;obtain ⟨m,hm,g⟩:=au g;obtain ⟨C,g⟩:=dk g;have C:=aD C;have hle':m.length<=67108864:=C;have A:=GQ d.mem hY hm k2;have hTm:=d.tmps.mono (n7 (r:=none) Y);have B:∀{ρ:Option Rf} b y,b≠fr->look s.H b=some y->y≠.dead->∃L,look s.H b=some L/\L≠.dead/\(∀q o,BR ι q L o->BR (upd ι fr ρ) q y o)/\∀t,L=.rows t []->y=.rows t []:=
   λb y _ hl hdd=>⟨y,hl,hdd,λq o hb=>BR.mono (n7 Y) hb,λ_ h=>h⟩
  by_cases h0:m.length=0
  ·have hm0:m=[]:=uu h0;subst hm0;have f:=mY (P:=P) (X:=.slice none 0 0) (w':=w) ho hx ht λW=>by
    rw [F];have:=run_append_nothing (P:=P) w t t2 W e i K hi none 0 0 (aW _) (a.eval y) (by simpa using A);simpa using this
   refine qZ f (hn _ (upd ι fr none) _ _ g (Inv.rebind d hTm B rfl rfl rfl (Bd _ _) (by omega) hd (λ_ _ _ _=>rfl) (.inr ⟨cT _ _ _,tr,rfl⟩) (λq E=>by cases E) (aW _) d.fr hfr0 ?_));unfold VR;exact .inr ⟨cT _ _ _,_,rfl⟩
  ·have R:m.length<=grownCap w m.length 0 e:=by simp only [grownCap,Question.cut];omega
   have f:=mY (P:=P) (X:=.slice (some ⟨w.heap.size,0,none⟩) m.length (grownCap w m.length 0 e))
     (w':=w.drew.alloc (.cells ((m.flatMap (vals tr)).toArray++Builtin.zeroCells zv.cells (grownCap w m.length 0 e - m.length)) e)) ho hx ht λW=>by
    rw [F];have:=run_append_grow_src (P:=P) w t t2 W e i zv K hi hz none 0 0 [] (run_firstCells_none _ _ _ _ _) (a.eval y) m.length _ A (by omega) (by omega) (JM (by simpa using C) (by omega) k4);simpa using this
   refine qZ f (hn _ (upd ι fr (some (Rf.of w.heap.size (m.length) (grownCap w m.length 0 e)))) _ _ g (Inv.rebind d (d.tmps.mono (n7 Y)) B rfl rfl rfl (Bd _ _) (by omega) hd (λb q hb E=>?_)
    (.inl ⟨_,_,cT _ _ _,iY _ _,?_⟩) (λq E=>?_) (by show w.heap.size<=(w.heap.push _).size;simp) (by exact (d.fr.draws (w.drawn+1)).alloc _) hfr0 ?_))
   ·exact iS _ _ (yi (d.mem.dom b q E))
   ·have:=C6 (ι:=upd ι fr (some (Rf.of w.heap.size (m.length) (grownCap w m.length 0 e)))) (tr:=tr) (l:=[]) (m:=m) (e:=e) (zc:=zv.cells) (cap:=grownCap w m.length 0 e) (r:=w.heap.size) k1 (by simpa using R);simpa using this
   ·simp only [am] at E;subst E;refine ⟨by show w.heap.size<(w.heap.push _).size;simp,λb q' _ hq'=>yi (d.mem.dom b q' hq'),.inr d.fr.size,rfl⟩
   ·simp only [VR];exact .inl ⟨_,cT _ _ _,rfl⟩
 ·rename_i c;simp only [VR] at F;split at g
  case h_2=>cases g
  rename_i tr l hb;split at g
  case h_2=>cases g
  rename_i I;simp only [ay] at I;obtain ⟨I,M,D⟩:=I;have M:=aD M;have D:=aD D;obtain ⟨i,zv,hi,hz,k1,k2,k3,k4⟩:=wP I;obtain ⟨m,hm,g⟩:=au g;obtain ⟨C,g⟩:=dk g;have C:=aD C;have hle':l.length+m.length<=67108864:=C;have A:=GQ d.mem hY hm k2;have hTk:∀{ρ:Option Rf},TR (upd ι c ρ) (s.kill [c]).T a.tmps:=by
   intro ρ;rw [St.kill_eq];exact d.tmps.kill wM
  have B:∀{ρ:Option Rf} b y,b≠c->look (s.kill [c]).H b=some y->y≠.dead->∃L,look s.H b=some L/\L≠.dead/\(∀q o,BR ι q L o->BR (upd ι c ρ) q y o)/\∀t,L=.rows t []->y=.rows t []:=by
   intro ρ b y V hl hdd;rw [St.kill_eq] at hl;simp only [sA] at hl;cases hy:look s.H b with
   | none=>rw [hy] at hl;cases hl
   | some L=>
    rw [hy] at hl;simp only [ee,am] at hl;subst hl;exact ⟨L,rfl,by rintro rfl;exact hdd rfl,λq o hbr=>BR.kill wM hbr,by rintro t rfl;rfl⟩
  have hlo:(s.kill [c]).lo=s.lo:=by rw [St.kill_eq]
  have hro:(s.kill [c]).ro=s.ro:=by rw [St.kill_eq]
  have hrb:(s.kill [c]).rb=s.rb:=by rw [St.kill_eq]
  have hcn:c<s.nb:=by
   rcases d.mem.blk c _ hb (by simp) with ⟨q,_,h1,_⟩ | ⟨h1,_⟩
   ·exact d.mem.low c _ h1
   ·exact d.mem.low c _ h1
  have grow:∀{base:Option Addr} {cp:Nat},a.eval x=.slice base l.length cp->(Builtin.firstCells i.size l.length (.slice base l.length cp)).run P w.drew=.ok (l.flatMap (vals tr)).toArray w.drew->cp<l.length+m.length->o.wp P a w next Q:=by
   intro base cp F hold hlt;have R:l.length+m.length<=grownCap w (l.length+m.length) cp e:=by simp only [grownCap,Question.cut];omega
   have f:=mY (P:=P) (X:=.slice (some ⟨w.heap.size,0,none⟩) (l.length+m.length) (grownCap w (l.length+m.length) cp e))
     (w':=w.drew.alloc (.cells ((l.flatMap (vals tr)++m.flatMap (vals tr)).toArray++Builtin.zeroCells zv.cells (grownCap w (l.length+m.length) cp e - (l.length+m.length))) e)) ho hx ht λW=>by
    rw [F];exact run_append_grow_src (P:=P) w t t2 W e i zv K hi hz base l.length cp _ hold (a.eval y) m.length _ A hlt (by omega) (JM C hlt k4)
   refine qZ f (hn _ (upd ι c (some (Rf.of w.heap.size (l.length+m.length) (grownCap w (l.length+m.length) cp e)))) _ _ g (Inv.rebind d hTk B hlo hro hrb (aW _) hcn hd (λb q hb E=>?_)
    (.inl ⟨_,_,cT _ _ _,iY _ _,C6 k1 R⟩) (λq E=>?_) (by show w.heap.size<=(w.heap.push _).size;simp) (by exact (d.fr.draws (w.drawn+1)).alloc _) (λ_ _=>D) ?_))
   ·exact iS _ _ (yi (d.mem.dom b q E))
   ·simp only [am] at E;subst E;refine ⟨by show w.heap.size<(w.heap.push _).size;simp,λb q' _ hq'=>yi (d.mem.dom b q' hq'),.inr d.fr.size,rfl⟩
   ·simp only [VR];exact .inl ⟨_,cT _ _ _,rfl⟩
  rcases iv d.mem hb with ⟨q,S,e',fz,U,g2,g4,g5,g6,g7,g8⟩ | ⟨U,rfl⟩
  ·rcases F with ⟨q',J,F⟩ | ⟨J,_⟩
   ·rw [J] at U;cases U;have hqz:q.fz=false:=by
     cases hc:q.fz with
     | false=>rfl
     | true=>have:=d.fz c q J hc;omega
    have g8:=g8.resolve_left (by rw [hqz];simp);by_cases G:q.n+m.length<=q.k
    ·have hmz:=mB (t:=tr) m;have Z:q.o+q.n*tr.length+m.length*tr.length<=S.size:=by
      have h1:=mK tr.length G;rw [fL] at h1;omega
     have O:∀j,j<(m.flatMap (vals tr)).length->w.cell? ⟨q.r,q.o+q.n*i.size+j,none⟩=S[q.o+q.n*tr.length+j]?:=by
      intro j hj;rw [aX g2,<-k2]
     have hfz:∀j,j<(m.flatMap (vals tr)).length->w.frozen? ⟨q.r,q.o+q.n*i.size+j,none⟩=false:=by
      intro j hj;exact oJ g2 g8 (by rw [<-k2];omega)
     have hst:=jU (P:=P) q.r (q.o+q.n*i.size) e' fz (m.flatMap (vals tr)) 0 S w g2 g8 (by rw [hmz,<-k2];omega) ue;have N:=run_storeCells_cells (P:=P) q.r (q.o+q.n*i.size) (m.flatMap (vals tr)) 0 w (by
      intro j hj;rw [fg,O j hj];simp;omega) (by intro j hj;rw [fg];exact hfz j hj) ue
     have hw:w.setCells q.r (q.o+q.n*i.size) (m.flatMap (vals tr))=setObj w q.r (.cells (splA S (q.o+q.n*tr.length) (m.flatMap (vals tr))) e' fz):=by
      rw [hst] at N;simp only [fg,vz,jm,<-k2] at N;rw [<-k2];exact N.symm
     have f:=mY (P:=P) (X:=.slice (some ⟨q.r,q.o,none⟩) (q.n+m.length) q.k) (w':=setObj w q.r (.cells (splA S (q.o+q.n*tr.length) (m.flatMap (vals tr))) e' fz)) ho hx ht λW=>by
      rw [F,<-hw];exact run_append_room_src (P:=P) w t t2 W e i K hi q.r q.o q.n q.k (a.eval y) m.length _ A G (λj hj=>by rw [O j hj];simp;omega) hfz
     have hssz:(splA S (q.o+q.n*tr.length) (m.flatMap (vals tr))).size=S.size:=ug (by rw [hmz];exact Z)
     refine qZ f (hn _ (upd ι c (some ⟨q.r,q.n+m.length,q.k,q.o,q.fz⟩)) _ _ g (Inv.rebind d hTk B hlo hro hrb (aW _) hcn hd (λb p V hp=>pY _ λer=>V ((d.mem.inj c b q p J hp er).resolve_right λhh=>by rw [hqz] at hh;cases hh.1).symm)
      (.inl ⟨_,_,cT _ _ _,wa g2,⟨_,e',fz,rfl,by simp [g4],G,by rw [hssz];exact g6,?_,.inr (by rw [hssz];exact g8)⟩⟩) (λp hp=>?_) (by simp [setObj]) ?_ (λ_ _=>D) ?_))
     ·show ((splA S (q.o+q.n*tr.length) (m.flatMap (vals tr))).toList.drop q.o).take _=_;rw [Ao (by omega),bB,g4,Eo,<-g7,g4];have hdl:(S.toList.drop q.o).length=S.size - q.o:=by simp
      rw [fL,<-uj,sj (by rw [bB,dx,hdl,hmz];omega)];rw [gX (by rw [bB,dx,hdl,hmz];omega)]
     ·simp only [am] at hp;subst hp;refine ⟨by have:=d.mem.dom c q J;simpa [setObj] using this,λb p' V hp' er=>V ((d.mem.inj b c p' q hp' J er).resolve_right λhh=>by rw [hqz] at hh;cases hh.2),d.new c q J,hqz⟩
     ·exact d.fr.write ((d.new c q J).imp (λ⟨q0,h,hr⟩=>⟨c,q0,Ac h M,hr⟩) id) _
     ·simp only [VR];exact .inl ⟨_,cT _ _ _,rfl⟩
    ·refine grow (base:=some ⟨q.r,q.o,none⟩) (cp:=q.k) (by rw [F,g4]) ?_ (by omega);have hfl:=mB (t:=tr) l;exact run_firstCells_some w.drew i.size l.length ⟨q.r,q.o,none⟩ l.length q.k _ (by rw [hfl,k2]) (xO (off:=0) (w:=w.drew) g2 (m:=l.length*tr.length) (by rw [g7,jO,nU]))
   ·rw [J] at U;cases U
  ·rcases F with ⟨q',J,F⟩ | ⟨J,ao,F⟩
   ·rw [J] at U;cases U
   ·by_cases h0:m.length=0
    ·have hm0:m=[]:=uu h0;subst hm0;have f:=mY (P:=P) (X:=.slice ao 0 0) (w':=w) ho hx ht λW=>by
      rw [F];have:=run_append_nothing (P:=P) w t t2 W e i K hi ao 0 0 (aW _) (a.eval y) (by simpa using A);simpa using this
     refine qZ f (hn _ (upd ι c none) _ _ g (Inv.rebind d hTk B hlo hro hrb (aW _) hcn hd (λ_ _ _ _=>rfl) (.inr ⟨cT _ _ _,tr,rfl⟩) (λq E=>by cases E) (aW _) d.fr (λ_ _=>D) ?_));unfold VR;exact .inr ⟨cT _ _ _,_,rfl⟩
    ·exact grow (base:=ao) (cp:=0) (by rw [F];rfl) (fS9 _ _ _) (by simp;omega)
 ·cases g
theorem yJ {α:Type} {E:List Ent} (I:∀x∈E,ek P x) {n fr:Nat} {ι0 ι:Inj} {w0:Base} {s:St} {o:Oper} {a:Act} {w:World} (C:Inv n ι0 w0 ι s a w)
  (p:∀b,fr<=b->ι b=none) (D:s.nb<=fr) {k:St->Option α} {K:V->St->Option α} {z:α} (h:HD P E n fr o s k K=some z)
  {next:Act->World->Prop} {Q:Exit->Act->World->Prop}
  (B:∀m c e w',k m=some z->Inv n ι0 w0 c m e w'->next e w')
  (hp:∀v m c x e w',K v m=some z->VR c v x->Inv n ι0 w0 c m e w'->Q (.panic [{ v:=x,recovered:=false }]) e w'):
  o.wp P a w next Q:=by
 unfold HD at h;split at h
 ·rename_i J A;split at h
  ·rename_i g d;split at h
   ·rename_i f cap L R;obtain ⟨l,O,h⟩:=au h;obtain ⟨r,y,N⟩:=tP I h;split at y
    ·cases y
    rename_i u;simp only [ay] at u;obtain ⟨q,args,F⟩:=J;simp only at d;subst d;refine yq A C (λb S _=>p b S) L R O u.1 u.2 (N _ λ_ _=>rfl) (λj c e w' _ t=>?_) (λj c x w' M t=>?_)
    ·rw [j] at y;exact B _ c e w' y t
    ·rw [j] at y;exact hp _ _ c x a w' y M t
   ·cases h
  ·rename_i d;obtain ⟨q,args,F⟩:=J;simp only at d;subst d;exact Gf A C (p fr (aW _)) D h B
  ·exact D9 I C (λb H _=>p b H) h (λm _ _ _ c e w' G _ i=>B m c e w' G i) hp
 ·exact D9 I C (λb H _=>p b H) h (λm _ _ _ c e w' G _ i=>B m c e w' G i) hp
end Go.Abs
