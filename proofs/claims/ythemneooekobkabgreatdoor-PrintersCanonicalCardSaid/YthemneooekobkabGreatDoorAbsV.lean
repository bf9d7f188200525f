
/- append, and calls that move rows.
   Conditions: none; generic over the program. -/
import Derived.Test.YthemneooekobkabGreatDoorAbsN
import Derived.Deep.Upon
set_option linter.unusedSimpArgs false
set_option linter.unusedVariables false
namespace Go.Abs
variable {P:Program}
theorem Hj:∀{t:List Lf} {x:den t},∀u∈vals t x,u.oneCell'=true
 | [],_,u,h=>by simp [vals] at h
 | [a],x,u,h=>by
  simp only [vals,wM] at h;subst h;cases a<;>rfl
 | a::b::l,x,u,h=>by
  simp only [vals,dr] at h;rcases h with rfl | h
  ·cases a<;>rfl
  ·exact Hj (t:=b::l) u (by simpa using h)
theorem wo {t:List Lf} {l:List (den t)}:∀u∈l.flatMap (vals t),u.oneCell'=true:=by
 intro u h;obtain ⟨x,_,hx⟩:=List.mem_flatMap.1 h;exact Hj u hx
theorem nl {t a:List Lf} {l:List (den t)} {m:List (den a)} (h:mu t a l=some m):∃e:t=a,m=e▸l:=by
 unfold mu at h;split at h
 ·rename_i e;simp only [au] at h;exact ⟨e,h.symm⟩
 ·cases h
theorem Bh {w:World} {r:Nat} {f:Array Value} {e:TypeId} {fr:Nat×Nat} (h:w.heap[r]?=some (.cells f e fr)) {off o:Nat} {news:List Value} {m:Nat} (i:(((f.toList.drop o).take m).drop off).take news.length=news):
  ∀j u,news[j]?=some u->w.cell? ((⟨r,o+off,none⟩:Addr).add j)=some u:=by
 intro j u b;have c:j<news.length:=by
  rcases aG j news.length with d | d
  ·exact d
  ·rw [ii d] at b;cases b
 rw [ny,bu h];have a:=bY (λq:List Value=>q[j]?) i;simp only [qC c,mZ,b] at a;by_cases g:off+j<m
 ·rw [qC g,mZ] at a;simpa [iO] using a
 ·rw [ii (by rw [db];omega)] at a;cases a
theorem Src.empty {w:World} {size:Nat} {C O:TypeId} (E:P.underlying C=some (.slice O)) (F:Option Addr):Src P size C (.slice F 0 0) 0 [] w:=by
 cases F with
 | none=>exact Src.ofNil w E 0
 | some a=>exact Src.ofSlice w E a 0 0 [] (by simp) (λj u G=>by simp at G) (λu J=>by cases J)
theorem I5 (size:Nat) (b:Option Addr) (w:World):(Builtin.firstCells size 0 (.slice b 0 0)).run P w=.ok #[] w:=by
 cases b with
 | none=>exact run_firstCells_none _ _ _ _ _
 | some a=>exact run_firstCells_some w size 0 a 0 0 [] (by simp) (λj u c=>by simp at c)
theorem KX {ι:Inj} {H:List (Nat×Blk)} {nb:Nat} {w:World} (A:WR ι H nb w) {b:V} {Y:Value} (f:VR ι b Y) {tr:List Lf} {z:TypeId} {m:List (den tr)} (h:srcK P H tr z b=some m)
  {size:Nat} (hs:tr.length=size):Src P size z Y m.length (m.flatMap (vals tr)) w:=by
 unfold srcK at h;split at h
 ·rename_i e g;split at h
  ·simp only [au] at h;subst h;simp only [VR] at f;subst f;exact Src.ofNil w g 0
  ·rename_i c;split at h
   case h_2=>cases h
   rename_i t l r;obtain ⟨rfl,rfl⟩:=nl h;simp only [VR] at f;rcases jH A r with ⟨q,F,K,fr,a,y,B,I,G,v,_⟩ | ⟨a,rfl⟩
   ·rcases f with ⟨E,d,rfl⟩ | ⟨d,_⟩
    ·rw [d] at a;cases a;rw [<-B];refine Src.ofSlice w g _ _ _ _ (by rw [oy,hs]) (Bh (off:=0) y (m:=m.length*t.length) ?_) wo;rw [v,cf,md]
    ·rw [d] at a;cases a
   ·rcases f with ⟨q,d,_⟩ | ⟨d,o,rfl⟩
    ·rw [d] at a;cases a
    ·exact Src.empty g o
  ·rename_i N c j n _;split at h
   case h_2=>cases h
   rename_i t l r;split at h
   case h_2=>cases h
   rename_i s;have s:=bK s;obtain ⟨k,h⟩:=dY h;have k:=aI k;obtain ⟨rfl,rfl⟩:=nl h;have p:((l.drop j).take n).length=n:=by rw [db,bL];omega
   simp only [VR] at f;rw [p];rcases f with ⟨q,cp,off,d,M,L,rfl⟩ | ⟨d,⟨rfl,_⟩,o,rfl⟩
   ·rcases jH A r with ⟨E,F,K,fr,a,y,B,I,G,v,_⟩ | ⟨a,rfl⟩
    ·rw [d] at a;cases a;refine Src.ofSlice w g _ _ _ _ (by rw [oy,p,hs]) ?_ wo;by_cases x:0<n
     ·rw [L x,s];refine Bh y (m:=l.length*t.length) ?_;rw [v,<-yp,oy,p,<-xh]
     ·have x:n=0:=by omega
      subst x;intro j u J;simp at J
    ·rw [d] at a;cases a
   ·simp only [lX,List.flatMap_nil];exact Src.empty g o
  ·cases h
 ·rename_i g;split at h
  case h_2=>cases h
  rename_i l;obtain ⟨rfl,rfl⟩:=nl h;simp only [VR] at f;subst f;simp only [az,aX] at hs;subst hs;have:=Src.ofString (P:=P) w g ⟨l.toArray⟩;have D:byteCells ⟨l.toArray⟩=(l.map λb=>((b.toNat:Nat):Int)).flatMap (vals [.i .u8]):=by
   rw [su];simp [byteCells]
  have C:(ByteArray.mk l.toArray).size=(l.map λb=>((b.toNat:Nat):Int)).length:=by rw [u0];rfl
  rw [D,C] at this;exact this
 ·cases h
theorem Inv.rebind {n:Nat} {ι0 ι:Inj} {w0:Base} {w w':World} {s s1:St} {a:Act} {c U:Nat} {ρ:Option Rf} {blk:Blk} {v:V} {x:Value} {dst:Option Nat} (J:Inv n ι0 w0 ι s a w)
  (hT:TR (upd ι c ρ) s1.T a.tmps) (hH:∀b y,b≠c->look s1.H b=some y->y≠.dead->∃y0,look s.H b=some y0/\y0≠.dead/\(∀q o,BR ι q y0 o->BR (upd ι c ρ) q y o)/\∀t,y0=.rows t []->y=.rows t [])
  (hlo:s1.lo=s.lo) (W:s1.ro=s.ro) (hrb:s1.rb=s.rb) (hnb:s.nb<=U) (hc:c<U) (hd:vn n dst=true)
  (h1:∀b q,b≠c->ι b=some (some q)->w'.heap[q.r]?=w.heap[q.r]?) (h2:BW (upd ι c ρ) w' c blk) (h3:∀q,ρ=some q->q.r<w'.heap.size/\(∀b Z,b≠c->ι b=some (some Z)->Z.r≠q.r)/\
   ((∃q0,ι0 c=some (some q0)/\q0.r=q.r)\/w0.w.heap.size<=q.r)/\q.fz=false) (h4:w.heap.size<=w'.heap.size) (h5:Fr (roI ι0 s.ro) w0.w w') (h6:∀q,ι0 c=some q->s.rb<=c)
  (hv:VR (upd ι c ρ) v x):Inv n ι0 w0 (upd ι c ρ) (s1.app dst (some v) [(c,blk)] U) (a.put dst x) w':=by
 have C:∀b,b≠c->upd ι c ρ b=ι b:=λb E=>by simp [upd,E]
 have F:upd ι c ρ c=some ρ:=by simp [upd]
 refine ⟨by rw [nG];exact J.size,by rw [jG];exact J.defers,hT.app J.size hd (λu hu=>by cases hu;exact hv),⟨λb b' q Z Y O e3=>?_,λb q e=>?_,λb q e=>?_,λb y hl X=>?_⟩,λb q e=>?_,λb q e=>?_,?_,?_,λb q e hq=>?_,by simp only [St.app,W];exact J.gl⟩
 ·by_cases E:b=c
  ·by_cases G:b'=c
   ·exact .inl (by rw [E,G])
   ·subst E;rw [F] at Y;rw [C b' G] at O;simp only [au] at Y;exact absurd e3.symm ((h3 q Y).2.1 b' Z G O)
  ·rw [C b E] at Y;by_cases G:b'=c
   ·subst G;rw [F] at O;simp only [au] at O;exact absurd e3 ((h3 Z O).2.1 b q E Y)
   ·rw [C b' G] at O;exact J.mem.inj b b' q Z Y O e3
 ·by_cases E:b=c
  ·rw [E];exact hc
  ·rw [C b E] at e;have:=J.mem.low b q e;exact qO this hnb
 ·by_cases E:b=c
  ·subst E;rw [F] at e;simp only [au] at e;exact (h3 q e).1
  ·rw [C b E] at e;exact qO (J.mem.dom b q e) h4
 ·simp only [St.app,eU,dW,aS] at hl;split at hl
  ·rename_i e;subst e;simp only [au] at hl;subst hl;exact h2
  ·rename_i Q;obtain ⟨y0,g1,g2,g3,g4⟩:=hH b y (λe=>Q e.symm) hl X;exact (J.mem.blk b y0 g1 g2).map (C b (λe=>Q e.symm)) (λq hq=>h1 b q (λe=>Q e.symm) hq) g3 g4
 ·by_cases E:b=c
  ·subst E;exact .inr (by simp only [St.app,hrb];exact h6 q e)
  ·rw [C b E];simp only [St.app,hrb];exact J.ext b q e
 ·by_cases E:b=c
  ·subst E;rw [F] at e;simp only [au] at e;exact (h3 q e).2.2.1
  ·rw [C b E] at e;exact J.new b q e
 ·simp only [St.app,W];exact h5
 ·simp only [St.app,hlo];exact J.low
 ·simp only [St.app,W];by_cases E:b=c
  ·subst E;rw [F] at e;simp only [au] at e;have:=(h3 q e).2.2.2;rw [this] at hq;cases hq
  ·rw [C b E] at e;exact J.fz b q e hq
theorem QE {b c:Nat} (h:isIn [c] b=false):b≠c:=by
 rintro rfl;simp [isIn] at h
theorem zG {ι:Inj} {c:Nat} {ρ:Option Rf}:∀b,isIn [c] b=false->∀q,ι b=some q->upd ι c ρ b=some q:=by
 intro b d q a;have:=QE d;simp [upd,this,a]
theorem pu {o:Oper} {a:Act} {w:World} {args:Array Operand} {b:Array TypeId} {x y:Operand} {t c:TypeId} {X:Value} {w':World} (g:o.op=.call ⟨.builtin .append,args,b⟩) (hx:args.toList=[x,y]) (e:b.toList=[t,c])
  (h:∀i,(Builtin.append_ #[t,c] i #[a.eval x,a.eval y]).run P w=.ok X w'):(execOp a.eval o).run P w=.ok (.value X) w':=by
 have f:args.map a.eval=#[a.eval x,a.eval y]:=by apply lG;simp [hx]
 have d:b=#[t,c]:=by apply lG;simp [e]
 simp only [execOp,g,resolve,f,d,aw,aD,ay,invoke,builtin,h]
theorem tM {o:Oper} {a:Act} {w w':World} {X:Value} (h:(execOp a.eval o).run P w=.ok (.value X) w') {next:Act->World->Prop} {Q:Exit->Act->World->Prop} (b:next (a.put o.dst X) w'):o.wp P a w next Q:=by
 unfold Oper.wp;rw [h];exact b
theorem L9 {a cap b:Nat} (d:a<=gP) (h:cap<a) (f:b<=1048576):Builtin.nextslicecap a cap*b<=281474976710656:=by
 have d:a<=67108864:=d;have key:Builtin.nextslicecap a cap<=2*a+768:=by
  have e:∀(m c:Nat),c<=2*a+768->Builtin.growBy a m c<=2*a+768:=by
   intro m
   induction m with
   | zero=>intro c hc;exact hc
   | succ m ih=>
    intro c hc;unfold Builtin.growBy;split
    ·exact hc
    ·exact ih _ (by omega)
  unfold Builtin.nextslicecap;split
  ·omega
  ·split
   ·omega
   ·exact e 4 cap (by omega)
 have g:=fS9 (show Builtin.nextslicecap a cap<=134218496 by omega) f;exact rq g (by decide)
theorem Ie {ι:Inj} {tr:List Lf} {l m:List (den tr)} {e:TypeId} {zc:Array Value} {cap r:Nat} (f:zc.size=tr.length) (a:l.length+m.length<=cap):
  BR ι (Rf.of r (l.length+m.length) cap) (.rows tr (l++m)) (.cells ((l.flatMap (vals tr)++m.flatMap (vals tr)).toArray++Builtin.zeroCells zc (cap - (l.length+m.length))) e):=by
 have d:=oy (t:=tr) l;have c:=oy (t:=tr) m;have b:(Builtin.zeroCells zc (cap - (l.length+m.length))).size=(cap - (l.length+m.length))*tr.length:=by simp [Builtin.zeroCells,f]
 refine ⟨_,e,(0,0),rfl,by simp,a,?_,?_,.inr (tH _)⟩
 ·simp only [Array.size_append,b,wU,aU,d,c];rw [<-hO,<-hO,de];exact oz _ (by omega)
 ·rw [yu,aU,hO,MH];have:l.length*tr.length+m.length*tr.length=(l.flatMap (vals tr)++m.flatMap (vals tr)).length:=by rw [aU,d,c]
  rw [this];exact Bz
theorem zP {tr:List Lf} {e:TypeId} (h:Qz P tr e=true):∃i z,P.info? e=some i/\i.zero=some z/\z.cells.size=tr.length/\tr.length=i.size/\0<tr.length/\i.bytes<=1048576:=by
 unfold Qz at h;split at h
 ·rename_i i hi;split at h
  ·rename_i z b;simp only [aA,ju] at h;obtain ⟨g,f,a,d⟩:=h;have c:i.size=P.cellsOf e:=by unfold Program.cellsOf;rw [hi];rfl
   have a:0<P.cellsOf e:=aI a;exact ⟨i,z,hi,b,by omega,by omega,by omega,aI d⟩
  ·cases h
 ·cases h
theorem Jj {α:Type} {n fr:Nat} {ι0 ι:Inj} {w0:Base} {s:St} {o:Oper} {a:Act} {w:World} {args:Array Operand} {tys:Array TypeId} (ho:o.op=.call ⟨.builtin .append,args,tys⟩) (d:Inv n ι0 w0 ι s a w)
  (hfr:ι fr=none) (hge:s.nb<=fr) {k:St->Option α} {z:α} (h:Gf P n fr o.dst args.toList tys.toList s k=some z)
  {next:Act->World->Prop} {Q:Exit->Act->World->Prop} (hn:∀s' ι' a' w',k s'=some z->Inv n ι0 w0 ι' s' a' w'->next a' w'):o.wp P a w next Q:=by
 unfold Gf at h;split at h
 case h_2=>cases h
 rename_i x y t t2 hd hx ht;split at h
 case h_2=>cases h
 rename_i e L;obtain ⟨u,hu,S⟩:=av h;obtain ⟨v,hv,g⟩:=av S;clear h S;have E:=bv d.tmps hu;have hY:=bv d.tmps hv;have hfr0:∀q,ι0 fr=some q->s.rb<=fr:=by
  intro q G;rcases d.ext fr q G with h | h
  ·rw [hfr] at h;cases h
  ·exact h
 split at g
 ·
  simp only [VR] at E;split at g
  case h_2=>cases g
  rename_i tr _;split at g
  case h_2=>cases g
  rename_i I;obtain ⟨i,zv,hi,hz,k1,k2,k3,k4⟩:=zP I;obtain ⟨m,hm,g⟩:=av g;obtain ⟨C,g⟩:=dY g;have C:=aI C;have hle':m.length<=67108864:=C;have A:=KX d.mem hY hm k2;have hTm:=d.tmps.mono (pS (r:=none) hfr);have B:∀{ρ:Option Rf} b y,b≠fr->look s.H b=some y->y≠.dead->∃M,look s.H b=some M/\M≠.dead/\(∀q o,BR ι q M o->BR (upd ι fr ρ) q y o)/\∀t,M=.rows t []->y=.rows t []:=
   λb y _ Y hdd=>⟨y,Y,hdd,λq o hb=>BR.mono (pS hfr) hb,λ_ h=>h⟩
  by_cases h0:m.length=0
  ·have hm0:m=[]:=tL h0;subst hm0;have f:=pu (P:=P) (X:=.slice none 0 0) (w':=w) ho hx ht λV=>by
    rw [E];have:=run_append_nothing (P:=P) w t t2 V e i L hi none 0 0 (aW _) (a.eval y) (by simpa using A);simpa using this
   refine tM f (hn _ (upd ι fr none) _ _ g (Inv.rebind d hTm B rfl rfl rfl (EV _ _) (by omega) hd (λ_ _ _ _=>rfl) (.inr ⟨dH _ _ _,tr,rfl⟩) (λq G=>by cases G) (aW _) d.fr hfr0 ?_));unfold VR;exact .inr ⟨dH _ _ _,_,rfl⟩
  ·have O:m.length<=grownCap w m.length 0 e:=by simp only [grownCap,Question.cut];omega
   have f:=pu (P:=P) (X:=.slice (some ⟨w.heap.size,0,none⟩) m.length (grownCap w m.length 0 e))
     (w':=w.drew.alloc (.cells ((m.flatMap (vals tr)).toArray++Builtin.zeroCells zv.cells (grownCap w m.length 0 e - m.length)) e)) ho hx ht λV=>by
    rw [E];have:=run_append_grow_src (P:=P) w t t2 V e i zv L hi hz none 0 0 [] (run_firstCells_none _ _ _ _ _) (a.eval y) m.length _ A (by omega) (by omega) (L9 (by simpa using C) (by omega) k4);simpa using this
   refine tM f (hn _ (upd ι fr (some (Rf.of w.heap.size (m.length) (grownCap w m.length 0 e)))) _ _ g (Inv.rebind d (d.tmps.mono (pS hfr)) B rfl rfl rfl (EV _ _) (by omega) hd (λb q hb G=>?_)
    (.inl ⟨_,_,dH _ _ _,ki _ _,?_⟩) (λq G=>?_) (by show w.heap.size<=(w.heap.push _).size;simp) (by exact (d.fr.draws (w.drawn+1)).alloc _) hfr0 ?_))
   ·exact ke _ _ (Bg (d.mem.dom b q G))
   ·have:=Ie (ι:=upd ι fr (some (Rf.of w.heap.size (m.length) (grownCap w m.length 0 e)))) (tr:=tr) (l:=[]) (m:=m) (e:=e) (zc:=zv.cells) (cap:=grownCap w m.length 0 e) (r:=w.heap.size) k1 (by simpa using O);simpa using this
   ·simp only [au] at G;subst G;refine ⟨by show w.heap.size<(w.heap.push _).size;simp,λb q' _ hq'=>Bg (d.mem.dom b q' hq'),.inr d.fr.size,rfl⟩
   ·simp only [VR];exact .inl ⟨_,dH _ _ _,rfl⟩
 ·rename_i c;simp only [VR] at E;split at g
  case h_2=>cases g
  rename_i tr l hb;split at g
  case h_2=>cases g
  rename_i I;simp only [aA] at I;obtain ⟨I,K,D⟩:=I;have K:=aI K;have D:=aI D;obtain ⟨i,zv,hi,hz,k1,k2,k3,k4⟩:=zP I;obtain ⟨m,hm,g⟩:=av g;obtain ⟨C,g⟩:=dY g;have C:=aI C;have hle':l.length+m.length<=67108864:=C;have A:=KX d.mem hY hm k2;have hTk:∀{ρ:Option Rf},TR (upd ι c ρ) (s.kill [c]).T a.tmps:=by
   intro ρ;rw [St.kill_eq];exact d.tmps.kill zG
  have B:∀{ρ:Option Rf} b y,b≠c->look (s.kill [c]).H b=some y->y≠.dead->∃M,look s.H b=some M/\M≠.dead/\(∀q o,BR ι q M o->BR (upd ι c ρ) q y o)/\∀t,M=.rows t []->y=.rows t []:=by
   intro ρ b y W Y hdd;rw [St.kill_eq] at Y;simp only [vk] at Y;cases hy:look s.H b with
   | none=>rw [hy] at Y;cases Y
   | some M=>
    rw [hy] at Y;simp only [fc,au] at Y;subst Y;exact ⟨M,rfl,by rintro rfl;exact hdd rfl,λq o hbr=>BR.kill zG hbr,by rintro t rfl;rfl⟩
  have hlo:(s.kill [c]).lo=s.lo:=by rw [St.kill_eq]
  have hro:(s.kill [c]).ro=s.ro:=by rw [St.kill_eq]
  have hrb:(s.kill [c]).rb=s.rb:=by rw [St.kill_eq]
  have hcn:c<s.nb:=by
   rcases d.mem.blk c _ hb (by simp) with ⟨q,_,h1,_⟩ | ⟨h1,_⟩
   ·exact d.mem.low c _ h1
   ·exact d.mem.low c _ h1
  have grow:∀{base:Option Addr} {cp:Nat},a.eval x=.slice base l.length cp->(Builtin.firstCells i.size l.length (.slice base l.length cp)).run P w.drew=.ok (l.flatMap (vals tr)).toArray w.drew->cp<l.length+m.length->o.wp P a w next Q:=by
   intro base cp E hold hlt;have O:l.length+m.length<=grownCap w (l.length+m.length) cp e:=by simp only [grownCap,Question.cut];omega
   have f:=pu (P:=P) (X:=.slice (some ⟨w.heap.size,0,none⟩) (l.length+m.length) (grownCap w (l.length+m.length) cp e))
     (w':=w.drew.alloc (.cells ((l.flatMap (vals tr)++m.flatMap (vals tr)).toArray++Builtin.zeroCells zv.cells (grownCap w (l.length+m.length) cp e - (l.length+m.length))) e)) ho hx ht λV=>by
    rw [E];exact run_append_grow_src (P:=P) w t t2 V e i zv L hi hz base l.length cp _ hold (a.eval y) m.length _ A hlt (by omega) (L9 C hlt k4)
   refine tM f (hn _ (upd ι c (some (Rf.of w.heap.size (l.length+m.length) (grownCap w (l.length+m.length) cp e)))) _ _ g (Inv.rebind d hTk B hlo hro hrb (aW _) hcn hd (λb q hb G=>?_)
    (.inl ⟨_,_,dH _ _ _,ki _ _,Ie k1 O⟩) (λq G=>?_) (by show w.heap.size<=(w.heap.push _).size;simp) (by exact (d.fr.draws (w.drawn+1)).alloc _) (λ_ _=>D) ?_))
   ·exact ke _ _ (Bg (d.mem.dom b q G))
   ·simp only [au] at G;subst G;refine ⟨by show w.heap.size<(w.heap.push _).size;simp,λb q' _ hq'=>Bg (d.mem.dom b q' hq'),.inr d.fr.size,rfl⟩
   ·simp only [VR];exact .inl ⟨_,dH _ _ _,rfl⟩
  rcases jH d.mem hb with ⟨q,U,e',fz,S,g2,g4,g5,g6,g7,g8⟩ | ⟨S,rfl⟩
  ·rcases E with ⟨q',J,E⟩ | ⟨J,_⟩
   ·rw [J] at S;cases S;have Z:q.fz=false:=by
     cases hc:q.fz with
     | false=>rfl
     | true=>have:=d.fz c q J hc;omega
    have g8:=g8.resolve_left (by rw [Z];simp);by_cases F:q.n+m.length<=q.k
    ·have hmz:=oy (t:=tr) m;have hbound:q.o+q.n*tr.length+m.length*tr.length<=U.size:=by
      have h1:=oz tr.length F;rw [hO] at h1;omega
     have R:∀j,j<(m.flatMap (vals tr)).length->w.cell? ⟨q.r,q.o+q.n*i.size+j,none⟩=U[q.o+q.n*tr.length+j]?:=by
      intro j hj;rw [bu g2,<-k2]
     have hfz:∀j,j<(m.flatMap (vals tr)).length->w.frozen? ⟨q.r,q.o+q.n*i.size+j,none⟩=false:=by
      intro j hj;exact qJ g2 g8 (by rw [<-k2];omega)
     have hst:=kU (P:=P) q.r (q.o+q.n*i.size) e' fz (m.flatMap (vals tr)) 0 U w g2 g8 (by rw [hmz,<-k2];omega) wo;have N:=run_storeCells_cells (P:=P) q.r (q.o+q.n*i.size) (m.flatMap (vals tr)) 0 w (by
      intro j hj;rw [cS,R j hj];simp;omega) (by intro j hj;rw [cS];exact hfz j hj) wo
     have hw:w.setCells q.r (q.o+q.n*i.size) (m.flatMap (vals tr))=setObj w q.r (.cells (splA U (q.o+q.n*tr.length) (m.flatMap (vals tr))) e' fz):=by
      rw [hst] at N;simp only [cS,xK,jT,<-k2] at N;rw [<-k2];exact N.symm
     have f:=pu (P:=P) (X:=.slice (some ⟨q.r,q.o,none⟩) (q.n+m.length) q.k) (w':=setObj w q.r (.cells (splA U (q.o+q.n*tr.length) (m.flatMap (vals tr))) e' fz)) ho hx ht λV=>by
      rw [E,<-hw];exact run_append_room_src (P:=P) w t t2 V e i L hi q.r q.o q.n q.k (a.eval y) m.length _ A F (λj hj=>by rw [R j hj];simp;omega) hfz
     have hssz:(splA U (q.o+q.n*tr.length) (m.flatMap (vals tr))).size=U.size:=w9 (by rw [hmz];exact hbound)
     refine tM f (hn _ (upd ι c (some ⟨q.r,q.n+m.length,q.k,q.o,q.fz⟩)) _ _ g (Inv.rebind d hTk B hlo hro hrb (aW _) hcn hd (λb p W hp=>sH _ λer=>W ((d.mem.inj c b q p J hp er).resolve_right λhh=>by rw [Z] at hh;cases hh.1).symm)
      (.inl ⟨_,_,dH _ _ _,yx g2,⟨_,e',fz,rfl,by simp [g4],F,by rw [hssz];exact g6,?_,.inr (by rw [hssz];exact g8)⟩⟩) (λp hp=>?_) (by simp [setObj]) ?_ (λ_ _=>D) ?_))
     ·show ((splA U (q.o+q.n*tr.length) (m.flatMap (vals tr))).toList.drop q.o).take _=_;rw [CU (by omega),aU,g4,MH,<-g7,g4];have hdl:(U.toList.drop q.o).length=U.size - q.o:=by simp
      rw [hO,<-fV,vq (by rw [aU,db,hdl,hmz];omega)];rw [ji (by rw [aU,db,hdl,hmz];omega)]
     ·simp only [au] at hp;subst hp;refine ⟨by have:=d.mem.dom c q J;simpa [setObj] using this,λb p' W hp' er=>W ((d.mem.inj b c p' q hp' J er).resolve_right λhh=>by rw [Z] at hh;cases hh.2),d.new c q J,Z⟩
     ·exact d.fr.write ((d.new c q J).imp (λ⟨q0,h,hr⟩=>⟨c,q0,CJ h K,hr⟩) id) _
     ·simp only [VR];exact .inl ⟨_,dH _ _ _,rfl⟩
    ·refine grow (base:=some ⟨q.r,q.o,none⟩) (cp:=q.k) (by rw [E,g4]) ?_ (by omega);have hfl:=oy (t:=tr) l;exact run_firstCells_some w.drew i.size l.length ⟨q.r,q.o,none⟩ l.length q.k _ (by rw [hfl,k2]) (Bh (off:=0) (w:=w.drew) g2 (m:=l.length*tr.length) (by rw [g7,cf,md]))
   ·rw [J] at S;cases S
  ·rcases E with ⟨q',J,E⟩ | ⟨J,ao,E⟩
   ·rw [J] at S;cases S
   ·by_cases h0:m.length=0
    ·have hm0:m=[]:=tL h0;subst hm0;have f:=pu (P:=P) (X:=.slice ao 0 0) (w':=w) ho hx ht λV=>by
      rw [E];have:=run_append_nothing (P:=P) w t t2 V e i L hi ao 0 0 (aW _) (a.eval y) (by simpa using A);simpa using this
     refine tM f (hn _ (upd ι c none) _ _ g (Inv.rebind d hTk B hlo hro hrb (aW _) hcn hd (λ_ _ _ _=>rfl) (.inr ⟨dH _ _ _,tr,rfl⟩) (λq G=>by cases G) (aW _) d.fr (λ_ _=>D) ?_));unfold VR;exact .inr ⟨dH _ _ _,_,rfl⟩
    ·exact grow (base:=ao) (cp:=0) (by rw [E];rfl) (I5 _ _ _) (by simp;omega)
 ·cases g
theorem Bd {α:Type} {E:List Ent} (F:∀x∈E,fH P x) {n fr:Nat} {ι0 ι:Inj} {w0:Base} {s:St} {o:Oper} {a:Act} {w:World} (A:Inv n ι0 w0 ι s a w)
  (p:∀b,fr<=b->ι b=none) (H:s.nb<=fr) {k:St->Option α} {I:V->St->Option α} {z:α} (h:JX P E n fr o s k I=some z)
  {next:Act->World->Prop} {Q:Exit->Act->World->Prop}
  (B:∀s' c i w',k s'=some z->Inv n ι0 w0 c s' i w'->next i w')
  (hp:∀v s' c x i w',I v s'=some z->VR c v x->Inv n ι0 w0 c s' i w'->Q (.panic [{ v:=x,recovered:=false }]) i w'):
  o.wp P a w next Q:=by
 unfold JX at h;split at h
 ·rename_i J y;split at h
  ·rename_i g d;split at h
   ·rename_i f cap O N;obtain ⟨l,M,h⟩:=av h;obtain ⟨r,u,L⟩:=wl F h;split at u
    ·cases u
    rename_i q;simp only [aA] at q;obtain ⟨m,args,C⟩:=J;simp only at d;subst d;refine AO y A (λb K _=>p b K) O N M q.1 q.2 (L _ λ_ _=>rfl) (λj c i w' _ t=>?_) (λj c x w' R t=>?_)
    ·rw [j] at u;exact B _ c i w' u t
    ·rw [j] at u;exact hp _ _ c x a w' u R t
   ·cases h
  ·rename_i d;obtain ⟨m,args,C⟩:=J;simp only at d;subst d;exact Jj y A (p fr (aW _)) H h B
  ·exact GK F A (λb D _=>p b D) h (λs' _ _ _ c i w' G _ e=>B s' c i w' G e) hp
 ·exact GK F A (λb D _=>p b D) h (λs' _ _ _ c i w' G _ e=>B s' c i w' G e) hp
end Go.Abs
