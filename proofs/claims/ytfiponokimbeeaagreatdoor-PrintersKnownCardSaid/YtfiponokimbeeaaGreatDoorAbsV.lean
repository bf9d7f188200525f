
/- append, and calls that move rows.
   Conditions: none; generic over the program. -/
import Derived.Test.YtfiponokimbeeaaGreatDoorAbsN
import Derived.Deep.Upon
set_option linter.unusedSimpArgs false
set_option linter.unusedVariables false
namespace Go.Abs
variable {P:Program}
theorem H6:∀{t:List Lf} {x:den t},∀u∈vals t x,u.oneCell'=true
 | [],_,u,h=>by simp [vals] at h
 | [a],x,u,h=>by
  simp only [vals,yC] at h;subst h;cases a<;>rfl
 | a::b::l,x,u,h=>by
  simp only [vals,dr] at h;rcases h with rfl | h
  ·cases a<;>rfl
  ·exact H6 (t:=b::l) u (by simpa using h)
theorem vR {t:List Lf} {l:List (den t)}:∀u∈l.flatMap (vals t),u.oneCell'=true:=by
 intro u h;obtain ⟨x,_,hx⟩:=List.mem_flatMap.1 h;exact H6 u hx
theorem mU {t a:List Lf} {l:List (den t)} {m:List (den a)} (h:l7 t a l=some m):∃e:t=a,m=e▸l:=by
 unfold l7 at h;split at h
 ·rename_i e;simp only [au] at h;exact ⟨e,h.symm⟩
 ·cases h
theorem Bn {w:World} {r:Nat} {f:Array Value} {e:TypeId} {fr:Nat×Nat} (h:w.heap[r]?=some (.cells f e fr)) {off o:Nat} {news:List Value} {m:Nat} (i:(((f.toList.drop o).take m).drop off).take news.length=news):
  ∀j u,news[j]?=some u->w.cell? ((⟨r,o+off,none⟩:Addr).add j)=some u:=by
 intro j u c;have b:j<news.length:=by
  rcases aH j news.length with d | d
  ·exact d
  ·rw [gW d] at c;cases c
 rw [mZ,bp h];have a:=ch (λq:List Value=>q[j]?) i;simp only [qf b,mL,c] at a;by_cases g:off+j<m
 ·rw [qf g,mL] at a;simpa [gY] using a
 ·rw [gW (by rw [da];omega)] at a;cases a
theorem Src.empty {w:World} {size:Nat} {E G:TypeId} (F:P.underlying E=some (.slice G)) (C:Option Addr):Src P size E (.slice C 0 0) 0 [] w:=by
 cases C with
 | none=>exact Src.ofNil w F 0
 | some a=>exact Src.ofSlice w F a 0 0 [] (by simp) (λj u J=>by simp at J) (λu O=>by cases O)
theorem IS (size:Nat) (b:Option Addr) (w:World):(Builtin.firstCells size 0 (.slice b 0 0)).run P w=.ok #[] w:=by
 cases b with
 | none=>exact run_firstCells_none _ _ _ _ _
 | some a=>exact run_firstCells_some w size 0 a 0 0 [] (by simp) (λj u c=>by simp at c)
theorem MX {ι:Inj} {H:List (Nat×Blk)} {nb:Nat} {w:World} (B:WR ι H nb w) {b:V} {Y:Value} (f:VR ι b Y) {tr:List Lf} {z:TypeId} {m:List (den tr)} (h:srcK P H tr z b=some m)
  {size:Nat} (hs:tr.length=size):Src P size z Y m.length (m.flatMap (vals tr)) w:=by
 unfold srcK at h;split at h
 ·rename_i e g;split at h
  ·simp only [au] at h;subst h;simp only [VR] at f;subst f;exact Src.ofNil w g 0
  ·rename_i c;split at h
   case h_2=>cases h
   rename_i t l s;obtain ⟨rfl,rfl⟩:=mU h;simp only [VR] at f;rcases jA B s with ⟨q,F,K,fr,a,o,A,D,L,y,_⟩ | ⟨a,rfl⟩
   ·rcases f with ⟨E,d,rfl⟩ | ⟨d,_⟩
    ·rw [d] at a;cases a;rw [<-A];refine Src.ofSlice w g _ _ _ _ (by rw [n9,hs]) (Bn (off:=0) o (m:=m.length*t.length) ?_) vR;rw [y,cM,nQ]
    ·rw [d] at a;cases a
   ·rcases f with ⟨q,d,_⟩ | ⟨d,r,rfl⟩
    ·rw [d] at a;cases a
    ·exact Src.empty g r
  ·rename_i N c j n _;split at h
   case h_2=>cases h
   rename_i t l s;split at h
   case h_2=>cases h
   rename_i p;have p:=bK p;obtain ⟨k,h⟩:=dZ h;have k:=aI k;obtain ⟨rfl,rfl⟩:=mU h;have v:((l.drop j).take n).length=n:=by rw [da,bR];omega
   simp only [VR] at f;rw [v];rcases f with ⟨q,cp,off,d,M,J,rfl⟩ | ⟨d,⟨rfl,_⟩,r,rfl⟩
   ·rcases jA B s with ⟨E,F,K,fr,a,o,A,D,L,y,_⟩ | ⟨a,rfl⟩
    ·rw [d] at a;cases a;refine Src.ofSlice w g _ _ _ _ (by rw [n9,v,hs]) ?_ vR;by_cases x:0<n
     ·rw [J x,p];refine Bn o (m:=l.length*t.length) ?_;rw [y,<-wB,n9,v,<-yy]
     ·have x:n=0:=by omega
      subst x;intro j u C;simp at C
    ·rw [d] at a;cases a
   ·simp only [mH,List.flatMap_nil];exact Src.empty g r
  ·cases h
 ·rename_i g;split at h
  case h_2=>cases h
  rename_i l;obtain ⟨rfl,rfl⟩:=mU h;simp only [VR] at f;subst f;simp only [aC,ba] at hs;subst hs;have:=Src.ofString (P:=P) w g ⟨l.toArray⟩;have I:byteCells ⟨l.toArray⟩=(l.map λb=>((b.toNat:Nat):Int)).flatMap (vals [.i .u8]):=by
   rw [rA];simp [byteCells]
  have G:(ByteArray.mk l.toArray).size=(l.map λb=>((b.toNat:Nat):Int)).length:=by rw [uV];rfl
  rw [I,G] at this;exact this
 ·cases h
theorem Inv.rebind {n:Nat} {ι0 ι:Inj} {w0:Base} {w w':World} {s Y:St} {a:Act} {c X:Nat} {ρ:Option Rf} {blk:Blk} {v:V} {x:Value} {dst:Option Nat} (J:Inv n ι0 w0 ι s a w)
  (hT:TR (upd ι c ρ) Y.T a.tmps) (hH:∀b y,b≠c->look Y.H b=some y->y≠.dead->∃y0,look s.H b=some y0/\y0≠.dead/\(∀q o,BR ι q y0 o->BR (upd ι c ρ) q y o)/\∀t,y0=.rows t []->y=.rows t [])
  (hlo:Y.lo=s.lo) (O:Y.ro=s.ro) (hrb:Y.rb=s.rb) (hnb:s.nb<=X) (hc:c<X) (hd:uS n dst=true)
  (h1:∀b q,b≠c->ι b=some (some q)->w'.heap[q.r]?=w.heap[q.r]?) (h2:BW (upd ι c ρ) w' c blk) (h3:∀q,ρ=some q->q.r<w'.heap.size/\(∀b Z,b≠c->ι b=some (some Z)->Z.r≠q.r)/\
   ((∃q0,ι0 c=some (some q0)/\q0.r=q.r)\/w0.w.heap.size<=q.r)/\q.fz=false) (h4:w.heap.size<=w'.heap.size) (h5:Fr (roI ι0 s.ro) w0.w w') (h6:∀q,ι0 c=some q->s.rb<=c)
  (hv:VR (upd ι c ρ) v x):Inv n ι0 w0 (upd ι c ρ) (Y.app dst (some v) [(c,blk)] X) (a.put dst x) w':=by
 have C:∀b,b≠c->upd ι c ρ b=ι b:=λb E=>by simp [upd,E]
 have F:upd ι c ρ c=some ρ:=by simp [upd]
 refine ⟨by rw [mX];exact J.size,by rw [jE];exact J.defers,hT.app J.size hd (λu hu=>by cases hu;exact hv),⟨λb b' q Z e1 U e3=>?_,λb q e=>?_,λb q e=>?_,λb y hl W=>?_⟩,λb q e=>?_,λb q e=>?_,?_,?_,λb q e hq=>?_,by simp only [St.app,O];exact J.gl⟩
 ·by_cases E:b=c
  ·by_cases G:b'=c
   ·exact .inl (by rw [E,G])
   ·subst E;rw [F] at e1;rw [C b' G] at U;simp only [au] at e1;exact absurd e3.symm ((h3 q e1).2.1 b' Z G U)
  ·rw [C b E] at e1;by_cases G:b'=c
   ·subst G;rw [F] at U;simp only [au] at U;exact absurd e3 ((h3 Z U).2.1 b q E e1)
   ·rw [C b' G] at U;exact J.mem.inj b b' q Z e1 U e3
 ·by_cases E:b=c
  ·rw [E];exact hc
  ·rw [C b E] at e;have:=J.mem.low b q e;exact rh this hnb
 ·by_cases E:b=c
  ·subst E;rw [F] at e;simp only [au] at e;exact (h3 q e).1
  ·rw [C b E] at e;exact rh (J.mem.dom b q e) h4
 ·simp only [St.app,eI,eK,aU] at hl;split at hl
  ·rename_i e;subst e;simp only [au] at hl;subst hl;exact h2
  ·rename_i Q;obtain ⟨y0,g1,g2,g3,g4⟩:=hH b y (λe=>Q e.symm) hl W;exact (J.mem.blk b y0 g1 g2).map (C b (λe=>Q e.symm)) (λq hq=>h1 b q (λe=>Q e.symm) hq) g3 g4
 ·by_cases E:b=c
  ·subst E;exact .inr (by simp only [St.app,hrb];exact h6 q e)
  ·rw [C b E];simp only [St.app,hrb];exact J.ext b q e
 ·by_cases E:b=c
  ·subst E;rw [F] at e;simp only [au] at e;exact (h3 q e).2.2.1
  ·rw [C b E] at e;exact J.new b q e
 ·simp only [St.app,O];exact h5
 ·simp only [St.app,hlo];exact J.low
 ·simp only [St.app,O];by_cases E:b=c
  ·subst E;rw [F] at e;simp only [au] at e;have:=(h3 q e).2.2.2;rw [this] at hq;cases hq
  ·rw [C b E] at e;exact J.fz b q e hq
theorem N6 {b c:Nat} (h:isIn [c] b=false):b≠c:=by
 rintro rfl;simp [isIn] at h
theorem zi {ι:Inj} {c:Nat} {ρ:Option Rf}:∀b,isIn [c] b=false->∀q,ι b=some q->upd ι c ρ b=some q:=by
 intro b a q d;have:=N6 a;simp [upd,this,d]
theorem oW {o:Oper} {a:Act} {w:World} {args:Array Operand} {b:Array TypeId} {x y:Operand} {t c:TypeId} {X:Value} {w':World} (g:o.op=.call ⟨.builtin .append,args,b⟩) (hx:args.toList=[x,y]) (f:b.toList=[t,c])
  (h:∀i,(Builtin.append_ #[t,c] i #[a.eval x,a.eval y]).run P w=.ok X w'):(execOp a.eval o).run P w=.ok (.value X) w':=by
 have e:args.map a.eval=#[a.eval x,a.eval y]:=by apply ll;simp [hx]
 have d:b=#[t,c]:=by apply ll;simp [f]
 simp only [execOp,g,resolve,e,d,aw,aD,ay,invoke,builtin,h]
theorem tw {o:Oper} {a:Act} {w w':World} {X:Value} (h:(execOp a.eval o).run P w=.ok (.value X) w') {next:Act->World->Prop} {Q:Exit->Act->World->Prop} (b:next (a.put o.dst X) w'):o.wp P a w next Q:=by
 unfold Oper.wp;rw [h];exact b
theorem LG {a cap b:Nat} (d:a<=gN) (h:cap<a) (e:b<=1048576):Builtin.nextslicecap a cap*b<=281474976710656:=by
 have d:a<=67108864:=d;have key:Builtin.nextslicecap a cap<=2*a+768:=by
  have f:∀(m c:Nat),c<=2*a+768->Builtin.growBy a m c<=2*a+768:=by
   intro m
   induction m with
   | zero=>intro c hc;exact hc
   | succ m ih=>
    intro c hc;unfold Builtin.growBy;split
    ·exact hc
    ·exact ih _ (by omega)
  unfold Builtin.nextslicecap;split
  ·omega
  ·split
   ·omega
   ·exact f 4 cap (by omega)
 have g:=Ei (show Builtin.nextslicecap a cap<=134218496 by omega) e;exact ri g (by decide)
theorem If {ι:Inj} {tr:List Lf} {l m:List (den tr)} {e:TypeId} {zc:Array Value} {cap r:Nat} (f:zc.size=tr.length) (a:l.length+m.length<=cap):
  BR ι (Rf.of r (l.length+m.length) cap) (.rows tr (l++m)) (.cells ((l.flatMap (vals tr)++m.flatMap (vals tr)).toArray++Builtin.zeroCells zc (cap - (l.length+m.length))) e):=by
 have c:=n9 (t:=tr) l;have d:=n9 (t:=tr) m;have b:(Builtin.zeroCells zc (cap - (l.length+m.length))).size=(cap - (l.length+m.length))*tr.length:=by simp [Builtin.zeroCells,f]
 refine ⟨_,e,(0,0),rfl,by simp,a,?_,?_,.inr (sX _)⟩
 ·simp only [Array.size_append,b,ym,aL,c,d];rw [<-gU,<-gU,dq];exact ot _ (by omega)
 ·rw [wq,aL,gU,Kq];have:l.length*tr.length+m.length*tr.length=(l.flatMap (vals tr)++m.flatMap (vals tr)).length:=by rw [aL,c,d]
  rw [this];exact FZ
theorem zL {tr:List Lf} {e:TypeId} (h:Qg P tr e=true):∃i z,P.info? e=some i/\i.zero=some z/\z.cells.size=tr.length/\tr.length=i.size/\0<tr.length/\i.bytes<=1048576:=by
 unfold Qg at h;split at h
 ·rename_i i hi;split at h
  ·rename_i z c;simp only [az,jt] at h;obtain ⟨f,g,a,d⟩:=h;have b:i.size=P.cellsOf e:=by unfold Program.cellsOf;rw [hi];rfl
   have a:0<P.cellsOf e:=aI a;exact ⟨i,z,hi,c,by omega,by omega,by omega,aI d⟩
  ·cases h
 ·cases h
theorem Jc {α:Type} {n fr:Nat} {ι0 ι:Inj} {w0:Base} {s:St} {o:Oper} {a:Act} {w:World} {args:Array Operand} {tys:Array TypeId} (ho:o.op=.call ⟨.builtin .append,args,tys⟩) (d:Inv n ι0 w0 ι s a w)
  (Z:ι fr=none) (hge:s.nb<=fr) {k:St->Option α} {z:α} (h:EV P n fr o.dst args.toList tys.toList s k=some z)
  {next:Act->World->Prop} {Q:Exit->Act->World->Prop} (hn:∀s' ι' a' w',k s'=some z->Inv n ι0 w0 ι' s' a' w'->next a' w'):o.wp P a w next Q:=by
 unfold EV at h;split at h
 case h_2=>cases h
 rename_i x y t t2 hd hx ht;split at h
 case h_2=>cases h
 rename_i e K;obtain ⟨u,hu,S⟩:=av h;obtain ⟨v,hv,g⟩:=av S;clear h S;have F:=bu d.tmps hu;have hY:=bu d.tmps hv;have hfr0:∀q,ι0 fr=some q->s.rb<=fr:=by
  intro q E;rcases d.ext fr q E with h | h
  ·rw [Z] at h;cases h
  ·exact h
 split at g
 ·
  simp only [VR] at F;split at g
  case h_2=>cases g
  rename_i tr _;split at g
  case h_2=>cases g
  rename_i I;obtain ⟨i,zv,hi,hz,k1,k2,k3,k4⟩:=zL I;obtain ⟨m,hm,g⟩:=av g;obtain ⟨C,g⟩:=dZ g;have C:=aI C;have hle':m.length<=67108864:=C;have B:=MX d.mem hY hm k2;have hTm:=d.tmps.mono (pj (r:=none) Z);have A:∀{ρ:Option Rf} b y,b≠fr->look s.H b=some y->y≠.dead->∃M,look s.H b=some M/\M≠.dead/\(∀q o,BR ι q M o->BR (upd ι fr ρ) q y o)/\∀t,M=.rows t []->y=.rows t []:=
   λb y _ hl hdd=>⟨y,hl,hdd,λq o hb=>BR.mono (pj Z) hb,λ_ h=>h⟩
  by_cases h0:m.length=0
  ·have hm0:m=[]:=wG h0;subst hm0;have f:=oW (P:=P) (X:=.slice none 0 0) (w':=w) ho hx ht λW=>by
    rw [F];have:=run_append_nothing (P:=P) w t t2 W e i K hi none 0 0 (aY _) (a.eval y) (by simpa using B);simpa using this
   refine tw f (hn _ (upd ι fr none) _ _ g (Inv.rebind d hTm A rfl rfl rfl (EY _ _) (by omega) hd (λ_ _ _ _=>rfl) (.inr ⟨dF _ _ _,tr,rfl⟩) (λq E=>by cases E) (aY _) d.fr hfr0 ?_));unfold VR;exact .inr ⟨dF _ _ _,_,rfl⟩
  ·have R:m.length<=grownCap w m.length 0 e:=by simp only [grownCap,Question.cut];omega
   have f:=oW (P:=P) (X:=.slice (some ⟨w.heap.size,0,none⟩) m.length (grownCap w m.length 0 e))
     (w':=w.drew.alloc (.cells ((m.flatMap (vals tr)).toArray++Builtin.zeroCells zv.cells (grownCap w m.length 0 e - m.length)) e)) ho hx ht λW=>by
    rw [F];have:=run_append_grow_src (P:=P) w t t2 W e i zv K hi hz none 0 0 [] (run_firstCells_none _ _ _ _ _) (a.eval y) m.length _ B (by omega) (by omega) (LG (by simpa using C) (by omega) k4);simpa using this
   refine tw f (hn _ (upd ι fr (some (Rf.of w.heap.size (m.length) (grownCap w m.length 0 e)))) _ _ g (Inv.rebind d (d.tmps.mono (pj Z)) A rfl rfl rfl (EY _ _) (by omega) hd (λb q hb E=>?_)
    (.inl ⟨_,_,dF _ _ _,jW _ _,?_⟩) (λq E=>?_) (by show w.heap.size<=(w.heap.push _).size;simp) (by exact (d.fr.draws (w.drawn+1)).alloc _) hfr0 ?_))
   ·exact jO _ _ (zV (d.mem.dom b q E))
   ·have:=If (ι:=upd ι fr (some (Rf.of w.heap.size (m.length) (grownCap w m.length 0 e)))) (tr:=tr) (l:=[]) (m:=m) (e:=e) (zc:=zv.cells) (cap:=grownCap w m.length 0 e) (r:=w.heap.size) k1 (by simpa using R);simpa using this
   ·simp only [au] at E;subst E;refine ⟨by show w.heap.size<(w.heap.push _).size;simp,λb q' _ hq'=>zV (d.mem.dom b q' hq'),.inr d.fr.size,rfl⟩
   ·simp only [VR];exact .inl ⟨_,dF _ _ _,rfl⟩
 ·rename_i c;simp only [VR] at F;split at g
  case h_2=>cases g
  rename_i tr l hb;split at g
  case h_2=>cases g
  rename_i I;simp only [az] at I;obtain ⟨I,O,D⟩:=I;have O:=aI O;have D:=aI D;obtain ⟨i,zv,hi,hz,k1,k2,k3,k4⟩:=zL I;obtain ⟨m,hm,g⟩:=av g;obtain ⟨C,g⟩:=dZ g;have C:=aI C;have hle':l.length+m.length<=67108864:=C;have B:=MX d.mem hY hm k2;have hTk:∀{ρ:Option Rf},TR (upd ι c ρ) (s.kill [c]).T a.tmps:=by
   intro ρ;rw [St.kill_eq];exact d.tmps.kill zi
  have A:∀{ρ:Option Rf} b y,b≠c->look (s.kill [c]).H b=some y->y≠.dead->∃M,look s.H b=some M/\M≠.dead/\(∀q o,BR ι q M o->BR (upd ι c ρ) q y o)/\∀t,M=.rows t []->y=.rows t []:=by
   intro ρ b y hbc hl hdd;rw [St.kill_eq] at hl;simp only [uQ] at hl;cases hy:look s.H b with
   | none=>rw [hy] at hl;cases hl
   | some M=>
    rw [hy] at hl;simp only [eX,au] at hl;subst hl;exact ⟨M,rfl,by rintro rfl;exact hdd rfl,λq o hbr=>BR.kill zi hbr,by rintro t rfl;rfl⟩
  have hlo:(s.kill [c]).lo=s.lo:=by rw [St.kill_eq]
  have hro:(s.kill [c]).ro=s.ro:=by rw [St.kill_eq]
  have hrb:(s.kill [c]).rb=s.rb:=by rw [St.kill_eq]
  have hcn:c<s.nb:=by
   rcases d.mem.blk c _ hb (by simp) with ⟨q,_,h1,_⟩ | ⟨h1,_⟩
   ·exact d.mem.low c _ h1
   ·exact d.mem.low c _ h1
  have grow:∀{base:Option Addr} {cp:Nat},a.eval x=.slice base l.length cp->(Builtin.firstCells i.size l.length (.slice base l.length cp)).run P w.drew=.ok (l.flatMap (vals tr)).toArray w.drew->cp<l.length+m.length->o.wp P a w next Q:=by
   intro base cp F hold hlt;have R:l.length+m.length<=grownCap w (l.length+m.length) cp e:=by simp only [grownCap,Question.cut];omega
   have f:=oW (P:=P) (X:=.slice (some ⟨w.heap.size,0,none⟩) (l.length+m.length) (grownCap w (l.length+m.length) cp e))
     (w':=w.drew.alloc (.cells ((l.flatMap (vals tr)++m.flatMap (vals tr)).toArray++Builtin.zeroCells zv.cells (grownCap w (l.length+m.length) cp e - (l.length+m.length))) e)) ho hx ht λW=>by
    rw [F];exact run_append_grow_src (P:=P) w t t2 W e i zv K hi hz base l.length cp _ hold (a.eval y) m.length _ B hlt (by omega) (LG C hlt k4)
   refine tw f (hn _ (upd ι c (some (Rf.of w.heap.size (l.length+m.length) (grownCap w (l.length+m.length) cp e)))) _ _ g (Inv.rebind d hTk A hlo hro hrb (aY _) hcn hd (λb q hb E=>?_)
    (.inl ⟨_,_,dF _ _ _,jW _ _,If k1 R⟩) (λq E=>?_) (by show w.heap.size<=(w.heap.push _).size;simp) (by exact (d.fr.draws (w.drawn+1)).alloc _) (λ_ _=>D) ?_))
   ·exact jO _ _ (zV (d.mem.dom b q E))
   ·simp only [au] at E;subst E;refine ⟨by show w.heap.size<(w.heap.push _).size;simp,λb q' _ hq'=>zV (d.mem.dom b q' hq'),.inr d.fr.size,rfl⟩
   ·simp only [VR];exact .inl ⟨_,dF _ _ _,rfl⟩
  rcases jA d.mem hb with ⟨q,U,e',fz,S,g2,g4,g5,g6,g7,g8⟩ | ⟨S,rfl⟩
  ·rcases F with ⟨q',J,F⟩ | ⟨J,_⟩
   ·rw [J] at S;cases S;have hqz:q.fz=false:=by
     cases hc:q.fz with
     | false=>rfl
     | true=>have:=d.fz c q J hc;omega
    have g8:=g8.resolve_left (by rw [hqz];simp);by_cases G:q.n+m.length<=q.k
    ·have V:=n9 (t:=tr) m;have Y:q.o+q.n*tr.length+m.length*tr.length<=U.size:=by
      have h1:=ot tr.length G;rw [gU] at h1;omega
     have L:∀j,j<(m.flatMap (vals tr)).length->w.cell? ⟨q.r,q.o+q.n*i.size+j,none⟩=U[q.o+q.n*tr.length+j]?:=by
      intro j hj;rw [bp g2,<-k2]
     have hfz:∀j,j<(m.flatMap (vals tr)).length->w.frozen? ⟨q.r,q.o+q.n*i.size+j,none⟩=false:=by
      intro j hj;exact qP g2 g8 (by rw [<-k2];omega)
     have hst:=kL (P:=P) q.r (q.o+q.n*i.size) e' fz (m.flatMap (vals tr)) 0 U w g2 g8 (by rw [V,<-k2];omega) vR;have N:=run_storeCells_cells (P:=P) q.r (q.o+q.n*i.size) (m.flatMap (vals tr)) 0 w (by
      intro j hj;rw [cN,L j hj];simp;omega) (by intro j hj;rw [cN];exact hfz j hj) vR
     have hw:w.setCells q.r (q.o+q.n*i.size) (m.flatMap (vals tr))=setObj w q.r (.cells (splA U (q.o+q.n*tr.length) (m.flatMap (vals tr))) e' fz):=by
      rw [hst] at N;simp only [cN,wM,jI,<-k2] at N;rw [<-k2];exact N.symm
     have f:=oW (P:=P) (X:=.slice (some ⟨q.r,q.o,none⟩) (q.n+m.length) q.k) (w':=setObj w q.r (.cells (splA U (q.o+q.n*tr.length) (m.flatMap (vals tr))) e' fz)) ho hx ht λW=>by
      rw [F,<-hw];exact run_append_room_src (P:=P) w t t2 W e i K hi q.r q.o q.n q.k (a.eval y) m.length _ B G (λj hj=>by rw [L j hj];simp;omega) hfz
     have hssz:(splA U (q.o+q.n*tr.length) (m.flatMap (vals tr))).size=U.size:=xO (by rw [V];exact Y)
     refine tw f (hn _ (upd ι c (some ⟨q.r,q.n+m.length,q.k,q.o,q.fz⟩)) _ _ g (Inv.rebind d hTk A hlo hro hrb (aY _) hcn hd (λb p hbc hp=>se _ λer=>hbc ((d.mem.inj c b q p J hp er).resolve_right λhh=>by rw [hqz] at hh;cases hh.1).symm)
      (.inl ⟨_,_,dF _ _ _,wI g2,⟨_,e',fz,rfl,by simp [g4],G,by rw [hssz];exact g6,?_,.inr (by rw [hssz];exact g8)⟩⟩) (λp hp=>?_) (by simp [setObj]) ?_ (λ_ _=>D) ?_))
     ·show ((splA U (q.o+q.n*tr.length) (m.flatMap (vals tr))).toList.drop q.o).take _=_;rw [CV (by omega),aL,g4,Kq,<-g7,g4];have hdl:(U.toList.drop q.o).length=U.size - q.o:=by simp
      rw [gU,<-iQ,uJ (by rw [aL,da,hdl,V];omega)];rw [i7 (by rw [aL,da,hdl,V];omega)]
     ·simp only [au] at hp;subst hp;refine ⟨by have:=d.mem.dom c q J;simpa [setObj] using this,λb p' hbc hp' er=>hbc ((d.mem.inj b c p' q hp' J er).resolve_right λhh=>by rw [hqz] at hh;cases hh.2),d.new c q J,hqz⟩
     ·exact d.fr.write ((d.new c q J).imp (λ⟨q0,h,hr⟩=>⟨c,q0,DU h O,hr⟩) id) _
     ·simp only [VR];exact .inl ⟨_,dF _ _ _,rfl⟩
    ·refine grow (base:=some ⟨q.r,q.o,none⟩) (cp:=q.k) (by rw [F,g4]) ?_ (by omega);have hfl:=n9 (t:=tr) l;exact run_firstCells_some w.drew i.size l.length ⟨q.r,q.o,none⟩ l.length q.k _ (by rw [hfl,k2]) (Bn (off:=0) (w:=w.drew) g2 (m:=l.length*tr.length) (by rw [g7,cM,nQ]))
   ·rw [J] at S;cases S
  ·rcases F with ⟨q',J,F⟩ | ⟨J,ao,F⟩
   ·rw [J] at S;cases S
   ·by_cases h0:m.length=0
    ·have hm0:m=[]:=wG h0;subst hm0;have f:=oW (P:=P) (X:=.slice ao 0 0) (w':=w) ho hx ht λW=>by
      rw [F];have:=run_append_nothing (P:=P) w t t2 W e i K hi ao 0 0 (aY _) (a.eval y) (by simpa using B);simpa using this
     refine tw f (hn _ (upd ι c none) _ _ g (Inv.rebind d hTk A hlo hro hrb (aY _) hcn hd (λ_ _ _ _=>rfl) (.inr ⟨dF _ _ _,tr,rfl⟩) (λq E=>by cases E) (aY _) d.fr (λ_ _=>D) ?_));unfold VR;exact .inr ⟨dF _ _ _,_,rfl⟩
    ·exact grow (base:=ao) (cp:=0) (by rw [F];rfl) (IS _ _ _) (by simp;omega)
 ·cases g
theorem BI {α:Type} {E:List Ent} (F:∀x∈E,fF P x) {n fr:Nat} {ι0 ι:Inj} {w0:Base} {s:St} {o:Oper} {a:Act} {w:World} (A:Inv n ι0 w0 ι s a w)
  (m:∀b,fr<=b->ι b=none) (H:s.nb<=fr) {k:St->Option α} {I:V->St->Option α} {z:α} (h:MC P E n fr o s k I=some z)
  {next:Act->World->Prop} {Q:Exit->Act->World->Prop}
  (B:∀s' c i w',k s'=some z->Inv n ι0 w0 c s' i w'->next i w')
  (hp:∀v s' c x i w',I v s'=some z->VR c v x->Inv n ι0 w0 c s' i w'->Q (.panic [{ v:=x,recovered:=false }]) i w'):
  o.wp P a w next Q:=by
 unfold MC at h;split at h
 ·rename_i J y;split at h
  ·rename_i g d;split at h
   ·rename_i f cap N R;obtain ⟨l,M,h⟩:=av h;obtain ⟨r,u,L⟩:=vU F h;split at u
    ·cases u
    rename_i q;simp only [az] at q;obtain ⟨p,args,C⟩:=J;simp only at d;subst d;refine zZ y A (λb O _=>m b O) N R M q.1 q.2 (L _ λ_ _=>rfl) (λe c i w' _ t=>?_) (λe c x w' K t=>?_)
    ·rw [e] at u;exact B _ c i w' u t
    ·rw [e] at u;exact hp _ _ c x a w' u K t
   ·cases h
  ·rename_i d;obtain ⟨p,args,C⟩:=J;simp only at d;subst d;exact Jc y A (m fr (aY _)) H h B
  ·exact He F A (λb G _=>m b G) h (λs' _ _ _ c i w' D _ j=>B s' c i w' D j) hp
 ·exact He F A (λb G _=>m b G) h (λs' _ _ _ c i w' D _ j=>B s' c i w' D j) hp
end Go.Abs
