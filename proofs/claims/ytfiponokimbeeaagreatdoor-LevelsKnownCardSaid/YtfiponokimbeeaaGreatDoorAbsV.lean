
/- append, and calls that move rows.
   Conditions: none; generic over the program. -/
import Derived.Test.YtfiponokimbeeaaGreatDoorAbsN
import Derived.Deep.Upon
set_option linter.unusedSimpArgs false
set_option linter.unusedVariables false
namespace Go.Abs
variable {P:Program}
theorem FD:∀{t:List Lf} {x:den t},∀u∈vals t x,u.oneCell'=true
 | [],_,u,h=>by simp [vals] at h
 | [a],x,u,h=>by
  simp only [vals,mn] at h;subst h;cases a<;>rfl
 | a::b::l,x,u,h=>by
  simp only [vals,cf] at h;rcases h with rfl | h
  ·cases a<;>rfl
  ·exact FD (t:=b::l) u (by simpa using h)
theorem vb {t:List Lf} {l:List (den t)}:∀u∈l.flatMap (vals t),u.oneCell'=true:=by
 intro u h;obtain ⟨x,_,hx⟩:=Di.1 h;exact FD u hx
theorem l8 {t a:List Lf} {l:List (den t)} {m:List (den a)} (h:kJ t a l=some m):∃e:t=a,m=e▸l:=by
 unfold kJ at h;split at h
 ·rename_i e;simp only [ak] at h;exact ⟨e,h.symm⟩
 ·cases h
theorem Ad {w:World} {r:Nat} {f:Array Value} {e:TypeId} {fr:Nat×Nat} (h:w.heap[r]?=some (.cells f e fr)) {off o:Nat} {news:List Value} {m:Nat} (i:(((f.toList.drop o).take m).drop off).take news.length=news):
  ∀j u,news[j]?=some u->w.cell? ((⟨r,o+off,none⟩:Addr).add j)=some u:=by
 intro j u c;have d:j<news.length:=by
  rcases aF j news.length with b | b
  ·exact b
  ·rw [fW b] at c;cases c
 rw [lV,bf h];have a:=ci (λq:List Value=>q[j]?) i;simp only [pS d,lO,c] at a;by_cases g:off+j<m
 ·rw [pS g,lO] at a;simpa [fY] using a
 ·rw [fW (by rw [fZ];omega)] at a;cases a
theorem Src.empty {w:World} {size:Nat} {C J:TypeId} (E:P.underlying C=some (.slice J)) (F:Option Addr):Src P size C (.slice F 0 0) 0 [] w:=by
 cases F with
 | none=>exact Src.ofNil w E 0
 | some a=>exact Src.ofSlice w E a 0 0 [] (by simp) (λj u G=>by simp at G) (λu O=>by cases O)
theorem HD (size:Nat) (b:Option Addr) (w:World):(Builtin.firstCells size 0 (.slice b 0 0)).run P w=.ok #[] w:=by
 cases b with
 | none=>exact run_firstCells_none _ _ _ _ _
 | some a=>exact run_firstCells_some w size 0 a 0 0 [] (by simp) (λj u c=>by simp at c)
theorem I4 {ι:Inj} {H:List (Nat×Blk)} {nb:Nat} {w:World} (z:WR ι H nb w) {b:V} {Y:Value} (f:VR ι b Y) {tr:List Lf} {B:TypeId} {m:List (den tr)} (h:srcK P H tr B b=some m)
  {size:Nat} (hs:tr.length=size):Src P size B Y m.length (m.flatMap (vals tr)) w:=by
 unfold srcK at h;split at h
 ·rename_i e g;split at h
  ·simp only [ak] at h;subst h;simp only [VR] at f;subst f;exact Src.ofNil w g 0
  ·rename_i c;split at h
   case h_2=>cases h
   rename_i t l r;obtain ⟨rfl,rfl⟩:=l8 h;simp only [VR] at f;rcases iH z r with ⟨q,I,L,fr,a,y,A,J,E,v,_⟩ | ⟨a,rfl⟩
   ·rcases f with ⟨F,d,rfl⟩ | ⟨d,_⟩
    ·rw [d] at a;cases a;rw [<-A];refine Src.ofSlice w g _ _ _ _ (by rw [nj,hs]) (Ad (off:=0) y (m:=m.length*t.length) ?_) vb;rw [v,ch,nM]
    ·rw [d] at a;cases a
   ·rcases f with ⟨q,d,_⟩ | ⟨d,x,rfl⟩
    ·rw [d] at a;cases a
    ·exact Src.empty g x
  ·rename_i N c j n _;split at h
   case h_2=>cases h
   rename_i t l r;split at h
   case h_2=>cases h
   rename_i o;have o:=bB o;obtain ⟨k,h⟩:=dG h;have k:=aE k;obtain ⟨rfl,rfl⟩:=l8 h;have s:((l.drop j).take n).length=n:=by rw [fZ,cY];omega
   simp only [VR] at f;rw [s];rcases f with ⟨q,cp,off,d,M,G,rfl⟩ | ⟨d,⟨rfl,_⟩,x,rfl⟩
   ·rcases iH z r with ⟨F,I,L,fr,a,y,A,J,E,v,_⟩ | ⟨a,rfl⟩
    ·rw [d] at a;cases a;refine Src.ofSlice w g _ _ _ _ (by rw [nj,s,hs]) ?_ vb;by_cases p:0<n
     ·rw [G p,o];refine Ad y (m:=l.length*t.length) ?_;rw [v,<-vP,nj,s,<-vj]
     ·have p:n=0:=by omega
      subst p;intro j u K;simp at K
    ·rw [d] at a;cases a
   ·simp only [lw,List.flatMap_nil];exact Src.empty g x
  ·cases h
 ·rename_i g;split at h
  case h_2=>cases h
  rename_i l;obtain ⟨rfl,rfl⟩:=l8 h;simp only [VR] at f;subst f;simp only [aM,dP] at hs;subst hs;have:=Src.ofString (P:=P) w g ⟨l.toArray⟩;have C:byteCells ⟨l.toArray⟩=(l.map λb=>((b.toNat:Nat):Int)).flatMap (vals [.i .u8]):=by
   rw [rl];simp [byteCells]
  have D:(ByteArray.mk l.toArray).size=(l.map λb=>((b.toNat:Nat):Int)).length:=by rw [yx];rfl
  rw [C,D] at this;exact this
 ·cases h
theorem Inv.rebind {n:Nat} {ι0 ι:Inj} {w0:Base} {w w':World} {s s1:St} {a:Act} {c X:Nat} {ρ:Option Rf} {blk:Blk} {v:V} {x:Value} {dst:Option Nat} (J:Inv n ι0 w0 ι s a w)
  (hT:TR (upd ι c ρ) s1.T a.tmps) (hH:∀b y,b≠c->look s1.H b=some y->y≠.dead->∃y0,look s.H b=some y0/\y0≠.dead/\(∀q o,BR ι q y0 o->BR (upd ι c ρ) q y o)/\∀t,y0=.rows t []->y=.rows t [])
  (hlo:s1.lo=s.lo) (W:s1.ro=s.ro) (hrb:s1.rb=s.rb) (hnb:s.nb<=X) (hc:c<X) (hd:uh n dst=true)
  (h1:∀b q,b≠c->ι b=some (some q)->w'.heap[q.r]?=w.heap[q.r]?) (h2:BW (upd ι c ρ) w' c blk) (h3:∀q,ρ=some q->q.r<w'.heap.size/\(∀b Z,b≠c->ι b=some (some Z)->Z.r≠q.r)/\
   ((∃q0,ι0 c=some (some q0)/\q0.r=q.r)\/w0.w.heap.size<=q.r)/\q.fz=false) (h4:w.heap.size<=w'.heap.size) (h5:Fr (roI ι0 s.ro) w0.w w') (h6:∀q,ι0 c=some q->s.rb<=c)
  (hv:VR (upd ι c ρ) v x):Inv n ι0 w0 (upd ι c ρ) (s1.app dst (some v) [(c,blk)] X) (a.put dst x) w':=by
 have C:∀b,b≠c->upd ι c ρ b=ι b:=λb E=>by simp [upd,E]
 have F:upd ι c ρ c=some ρ:=by simp [upd]
 refine ⟨by rw [md];exact J.size,by rw [iE];exact J.defers,hT.app J.size hd (λu hu=>by cases hu;exact hv),⟨λb b' q Z Y O e3=>?_,λb q e=>?_,λb q e=>?_,λb y hl Q=>?_⟩,λb q e=>?_,λb q e=>?_,?_,?_,λb q e hq=>?_,by simp only [St.app,W];exact J.gl⟩
 ·by_cases E:b=c
  ·by_cases G:b'=c
   ·exact .inl (by rw [E,G])
   ·subst E;rw [F] at Y;rw [C b' G] at O;simp only [ak] at Y;exact absurd e3.symm ((h3 q Y).2.1 b' Z G O)
  ·rw [C b E] at Y;by_cases G:b'=c
   ·subst G;rw [F] at O;simp only [ak] at O;exact absurd e3 ((h3 Z O).2.1 b q E Y)
   ·rw [C b' G] at O;exact J.mem.inj b b' q Z Y O e3
 ·by_cases E:b=c
  ·rw [E];exact hc
  ·rw [C b E] at e;have:=J.mem.low b q e;exact qb this hnb
 ·by_cases E:b=c
  ·subst E;rw [F] at e;simp only [ak] at e;exact (h3 q e).1
  ·rw [C b E] at e;exact qb (J.mem.dom b q e) h4
 ·simp only [St.app,ep,dD,aR] at hl;split at hl
  ·rename_i e;subst e;simp only [ak] at hl;subst hl;exact h2
  ·rename_i U;obtain ⟨y0,g1,g2,g3,g4⟩:=hH b y (λe=>U e.symm) hl Q;exact (J.mem.blk b y0 g1 g2).map (C b (λe=>U e.symm)) (λq hq=>h1 b q (λe=>U e.symm) hq) g3 g4
 ·by_cases E:b=c
  ·subst E;exact .inr (by simp only [St.app,hrb];exact h6 q e)
  ·rw [C b E];simp only [St.app,hrb];exact J.ext b q e
 ·by_cases E:b=c
  ·subst E;rw [F] at e;simp only [ak] at e;exact (h3 q e).2.2.1
  ·rw [C b E] at e;exact J.new b q e
 ·simp only [St.app,W];exact h5
 ·simp only [St.app,hlo];exact J.low
 ·simp only [St.app,W];by_cases E:b=c
  ·subst E;rw [F] at e;simp only [ak] at e;have:=(h3 q e).2.2.2;rw [this] at hq;cases hq
  ·rw [C b E] at e;exact J.fz b q e hq
theorem M4 {b c:Nat} (h:isIn [c] b=false):b≠c:=by
 rintro rfl;simp [isIn] at h
theorem yP {ι:Inj} {c:Nat} {ρ:Option Rf}:∀b,isIn [c] b=false->∀q,ι b=some q->upd ι c ρ b=some q:=by
 intro b d q a;have:=M4 d;simp [upd,this,a]
theorem nS {o:Oper} {a:Act} {w:World} {args:Array Operand} {b:Array TypeId} {x y:Operand} {t d:TypeId} {X:Value} {w':World} (f:o.op=.call ⟨.builtin .append,args,b⟩) (hx:args.toList=[x,y]) (g:b.toList=[t,d])
  (h:∀e,(Builtin.append_ #[t,d] e #[a.eval x,a.eval y]).run P w=.ok X w'):(execOp a.eval o).run P w=.ok (.value X) w':=by
 have i:args.map a.eval=#[a.eval x,a.eval y]:=by apply jQ;simp [hx]
 have c:b=#[t,d]:=by apply jQ;simp [g]
 simp only [execOp,f,resolve,i,c,aw,aB,ay,invoke,builtin,h]
theorem sP {o:Oper} {a:Act} {w w':World} {X:Value} (h:(execOp a.eval o).run P w=.ok (.value X) w') {next:Act->World->Prop} {Q:Exit->Act->World->Prop} (b:next (a.put o.dst X) w'):o.wp P a w next Q:=by
 unfold Oper.wp;rw [h];exact b
theorem Jq {a cap b:Nat} (d:a<=dR) (h:cap<a) (g:b<=1048576):Builtin.nextslicecap a cap*b<=281474976710656:=by
 have d:a<=67108864:=d;have key:Builtin.nextslicecap a cap<=2*a+768:=by
  have e:∀(m c:Nat),c<=2*a+768->Builtin.growBy a m c<=2*a+768:=by
   intro m
   induction m with
   | zero=>intro c hc;exact hc
   | succ m ih=>
    intro c hc;unfold Builtin.growBy;split
    ·exact hc
    ·exact ih _ (by omega)
  unfold Builtin.nextslicecap;split
  ·omega
  ·split
   ·omega
   ·exact e 4 cap (by omega)
 have f:=C4 (show Builtin.nextslicecap a cap<=134218496 by omega) g;exact rV f (by decide)
theorem E5 {ι:Inj} {tr:List Lf} {l m:List (den tr)} {e:TypeId} {zc:Array Value} {cap r:Nat} (f:zc.size=tr.length) (a:l.length+m.length<=cap):
  BR ι (Rf.of r (l.length+m.length) cap) (.rows tr (l++m)) (.cells ((l.flatMap (vals tr)++m.flatMap (vals tr)).toArray++Builtin.zeroCells zc (cap - (l.length+m.length))) e):=by
 have c:=nj (t:=tr) l;have d:=nj (t:=tr) m;have b:(Builtin.zeroCells zc (cap - (l.length+m.length))).size=(cap - (l.length+m.length))*tr.length:=by simp [Builtin.zeroCells,f]
 refine ⟨_,e,(0,0),rfl,by simp,a,?_,?_,.inr (sq _)⟩
 ·simp only [Array.size_append,b,xc,bH,c,d];rw [<-f9,<-f9,cP];exact nF _ (by omega)
 ·rw [wF,bH,f9,H6];have:l.length*tr.length+m.length*tr.length=(l.flatMap (vals tr)++m.flatMap (vals tr)).length:=by rw [bH,c,d]
  rw [this];exact zI
theorem yk {tr:List Lf} {e:TypeId} (h:L9 P tr e=true):∃i z,P.info? e=some i/\i.zero=some z/\z.cells.size=tr.length/\tr.length=i.size/\0<tr.length/\i.bytes<=1048576:=by
 unfold L9 at h;split at h
 ·rename_i i hi;split at h
  ·rename_i z c;simp only [az,ie] at h;obtain ⟨f,g,a,d⟩:=h;have b:i.size=P.cellsOf e:=by unfold Program.cellsOf;rw [hi];rfl
   have a:0<P.cellsOf e:=aE a;exact ⟨i,z,hi,c,by omega,by omega,by omega,aE d⟩
  ·cases h
 ·cases h
theorem GG {α:Type} {n fr:Nat} {ι0 ι:Inj} {w0:Base} {s:St} {o:Oper} {a:Act} {w:World} {args:Array Operand} {tys:Array TypeId} (ho:o.op=.call ⟨.builtin .append,args,tys⟩) (d:Inv n ι0 w0 ι s a w)
  (hfr:ι fr=none) (hge:s.nb<=fr) {k:St->Option α} {z:α} (h:En P n fr o.dst args.toList tys.toList s k=some z)
  {next:Act->World->Prop} {Q:Exit->Act->World->Prop} (hn:∀s' ι' a' w',k s'=some z->Inv n ι0 w0 ι' s' a' w'->next a' w'):o.wp P a w next Q:=by
 unfold En at h;split at h
 case h_2=>cases h
 rename_i x y t t2 hd hx ht;split at h
 case h_2=>cases h
 rename_i e O;obtain ⟨u,hu,U⟩:=ar h;obtain ⟨v,hv,g⟩:=ar U;clear h U;have E:=bg d.tmps hu;have hY:=bg d.tmps hv;have hfr0:∀q,ι0 fr=some q->s.rb<=fr:=by
  intro q G;rcases d.ext fr q G with h | h
  ·rw [hfr] at h;cases h
  ·exact h
 split at g
 ·
  simp only [VR] at E;split at g
  case h_2=>cases g
  rename_i tr _;split at g
  case h_2=>cases g
  rename_i I;obtain ⟨i,zv,hi,hz,k1,k2,k3,k4⟩:=yk I;obtain ⟨m,hm,g⟩:=ar g;obtain ⟨C,g⟩:=dG g;have C:=aE C;have hle':m.length<=67108864:=C;have B:=I4 d.mem hY hm k2;have hTm:=d.tmps.mono (pw (r:=none) hfr);have A:∀{ρ:Option Rf} b y,b≠fr->look s.H b=some y->y≠.dead->∃M,look s.H b=some M/\M≠.dead/\(∀q o,BR ι q M o->BR (upd ι fr ρ) q y o)/\∀t,M=.rows t []->y=.rows t []:=
   λb y _ hl hdd=>⟨y,hl,hdd,λq o hb=>BR.mono (pw hfr) hb,λ_ h=>h⟩
  by_cases h0:m.length=0
  ·have hm0:m=[]:=sQ h0;subst hm0;have f:=nS (P:=P) (X:=.slice none 0 0) (w':=w) ho hx ht λY=>by
    rw [E];have:=run_append_nothing (P:=P) w t t2 Y e i O hi none 0 0 (aP _) (a.eval y) (by simpa using B);simpa using this
   refine sP f (hn _ (upd ι fr none) _ _ g (Inv.rebind d hTm A rfl rfl rfl (Ef _ _) (by omega) hd (λ_ _ _ _=>rfl) (.inr ⟨dk _ _ _,tr,rfl⟩) (λq G=>by cases G) (aP _) d.fr hfr0 ?_));unfold VR;exact .inr ⟨dk _ _ _,_,rfl⟩
  ·have K:m.length<=grownCap w m.length 0 e:=by simp only [grownCap,Question.cut];omega
   have f:=nS (P:=P) (X:=.slice (some ⟨w.heap.size,0,none⟩) m.length (grownCap w m.length 0 e))
     (w':=w.drew.alloc (.cells ((m.flatMap (vals tr)).toArray++Builtin.zeroCells zv.cells (grownCap w m.length 0 e - m.length)) e)) ho hx ht λY=>by
    rw [E];have:=run_append_grow_src (P:=P) w t t2 Y e i zv O hi hz none 0 0 [] (run_firstCells_none _ _ _ _ _) (a.eval y) m.length _ B (by omega) (by omega) (Jq (by simpa using C) (by omega) k4);simpa using this
   refine sP f (hn _ (upd ι fr (some (Rf.of w.heap.size (m.length) (grownCap w m.length 0 e)))) _ _ g (Inv.rebind d (d.tmps.mono (pw hfr)) A rfl rfl rfl (Ef _ _) (by omega) hd (λb q hb G=>?_)
    (.inl ⟨_,_,dk _ _ _,iQ _ _,?_⟩) (λq G=>?_) (by show w.heap.size<=(w.heap.push _).size;simp) (by exact (d.fr.draws (w.drawn+1)).alloc _) hfr0 ?_))
   ·exact iS _ _ (zo (d.mem.dom b q G))
   ·have:=E5 (ι:=upd ι fr (some (Rf.of w.heap.size (m.length) (grownCap w m.length 0 e)))) (tr:=tr) (l:=[]) (m:=m) (e:=e) (zc:=zv.cells) (cap:=grownCap w m.length 0 e) (r:=w.heap.size) k1 (by simpa using K);simpa using this
   ·simp only [ak] at G;subst G;refine ⟨by show w.heap.size<(w.heap.push _).size;simp,λb q' _ hq'=>zo (d.mem.dom b q' hq'),.inr d.fr.size,rfl⟩
   ·simp only [VR];exact .inl ⟨_,dk _ _ _,rfl⟩
 ·rename_i c;simp only [VR] at E;split at g
  case h_2=>cases g
  rename_i tr l hb;split at g
  case h_2=>cases g
  rename_i I;simp only [az] at I;obtain ⟨I,L,D⟩:=I;have L:=aE L;have D:=aE D;obtain ⟨i,zv,hi,hz,k1,k2,k3,k4⟩:=yk I;obtain ⟨m,hm,g⟩:=ar g;obtain ⟨C,g⟩:=dG g;have C:=aE C;have hle':l.length+m.length<=67108864:=C;have B:=I4 d.mem hY hm k2;have hTk:∀{ρ:Option Rf},TR (upd ι c ρ) (s.kill [c]).T a.tmps:=by
   intro ρ;rw [St.kill_eq];exact d.tmps.kill yP
  have A:∀{ρ:Option Rf} b y,b≠c->look (s.kill [c]).H b=some y->y≠.dead->∃M,look s.H b=some M/\M≠.dead/\(∀q o,BR ι q M o->BR (upd ι c ρ) q y o)/\∀t,M=.rows t []->y=.rows t []:=by
   intro ρ b y W hl hdd;rw [St.kill_eq] at hl;simp only [ud] at hl;cases hy:look s.H b with
   | none=>rw [hy] at hl;cases hl
   | some M=>
    rw [hy] at hl;simp only [eo,ak] at hl;subst hl;exact ⟨M,rfl,by rintro rfl;exact hdd rfl,λq o hbr=>BR.kill yP hbr,by rintro t rfl;rfl⟩
  have hlo:(s.kill [c]).lo=s.lo:=by rw [St.kill_eq]
  have hro:(s.kill [c]).ro=s.ro:=by rw [St.kill_eq]
  have hrb:(s.kill [c]).rb=s.rb:=by rw [St.kill_eq]
  have hcn:c<s.nb:=by
   rcases d.mem.blk c _ hb (by simp) with ⟨q,_,h1,_⟩ | ⟨h1,_⟩
   ·exact d.mem.low c _ h1
   ·exact d.mem.low c _ h1
  have grow:∀{base:Option Addr} {cp:Nat},a.eval x=.slice base l.length cp->(Builtin.firstCells i.size l.length (.slice base l.length cp)).run P w.drew=.ok (l.flatMap (vals tr)).toArray w.drew->cp<l.length+m.length->o.wp P a w next Q:=by
   intro base cp E hold hlt;have K:l.length+m.length<=grownCap w (l.length+m.length) cp e:=by simp only [grownCap,Question.cut];omega
   have f:=nS (P:=P) (X:=.slice (some ⟨w.heap.size,0,none⟩) (l.length+m.length) (grownCap w (l.length+m.length) cp e))
     (w':=w.drew.alloc (.cells ((l.flatMap (vals tr)++m.flatMap (vals tr)).toArray++Builtin.zeroCells zv.cells (grownCap w (l.length+m.length) cp e - (l.length+m.length))) e)) ho hx ht λY=>by
    rw [E];exact run_append_grow_src (P:=P) w t t2 Y e i zv O hi hz base l.length cp _ hold (a.eval y) m.length _ B hlt (by omega) (Jq C hlt k4)
   refine sP f (hn _ (upd ι c (some (Rf.of w.heap.size (l.length+m.length) (grownCap w (l.length+m.length) cp e)))) _ _ g (Inv.rebind d hTk A hlo hro hrb (aP _) hcn hd (λb q hb G=>?_)
    (.inl ⟨_,_,dk _ _ _,iQ _ _,E5 k1 K⟩) (λq G=>?_) (by show w.heap.size<=(w.heap.push _).size;simp) (by exact (d.fr.draws (w.drawn+1)).alloc _) (λ_ _=>D) ?_))
   ·exact iS _ _ (zo (d.mem.dom b q G))
   ·simp only [ak] at G;subst G;refine ⟨by show w.heap.size<(w.heap.push _).size;simp,λb q' _ hq'=>zo (d.mem.dom b q' hq'),.inr d.fr.size,rfl⟩
   ·simp only [VR];exact .inl ⟨_,dk _ _ _,rfl⟩
  rcases iH d.mem hb with ⟨q,S,e',fz,U,g2,g4,g5,g6,g7,g8⟩ | ⟨U,rfl⟩
  ·rcases E with ⟨q',J,E⟩ | ⟨J,_⟩
   ·rw [J] at U;cases U;have hqz:q.fz=false:=by
     cases hc:q.fz with
     | false=>rfl
     | true=>have:=d.fz c q J hc;omega
    have g8:=g8.resolve_left (by rw [hqz];simp);by_cases F:q.n+m.length<=q.k
    ·have Z:=nj (t:=tr) m;have V:q.o+q.n*tr.length+m.length*tr.length<=S.size:=by
      have h1:=nF tr.length F;rw [f9] at h1;omega
     have R:∀j,j<(m.flatMap (vals tr)).length->w.cell? ⟨q.r,q.o+q.n*i.size+j,none⟩=S[q.o+q.n*tr.length+j]?:=by
      intro j hj;rw [bf g2,<-k2]
     have hfz:∀j,j<(m.flatMap (vals tr)).length->w.frozen? ⟨q.r,q.o+q.n*i.size+j,none⟩=false:=by
      intro j hj;exact qC g2 g8 (by rw [<-k2];omega)
     have hst:=jH (P:=P) q.r (q.o+q.n*i.size) e' fz (m.flatMap (vals tr)) 0 S w g2 g8 (by rw [Z,<-k2];omega) vb;have N:=run_storeCells_cells (P:=P) q.r (q.o+q.n*i.size) (m.flatMap (vals tr)) 0 w (by
      intro j hj;rw [cn,R j hj];simp;omega) (by intro j hj;rw [cn];exact hfz j hj) vb
     have hw:w.setCells q.r (q.o+q.n*i.size) (m.flatMap (vals tr))=setObj w q.r (.cells (splA S (q.o+q.n*tr.length) (m.flatMap (vals tr))) e' fz):=by
      rw [hst] at N;simp only [cn,xm,mN,<-k2] at N;rw [<-k2];exact N.symm
     have f:=nS (P:=P) (X:=.slice (some ⟨q.r,q.o,none⟩) (q.n+m.length) q.k) (w':=setObj w q.r (.cells (splA S (q.o+q.n*tr.length) (m.flatMap (vals tr))) e' fz)) ho hx ht λY=>by
      rw [E,<-hw];exact run_append_room_src (P:=P) w t t2 Y e i O hi q.r q.o q.n q.k (a.eval y) m.length _ B F (λj hj=>by rw [R j hj];simp;omega) hfz
     have hssz:(splA S (q.o+q.n*tr.length) (m.flatMap (vals tr))).size=S.size:=wb (by rw [Z];exact V)
     refine sP f (hn _ (upd ι c (some ⟨q.r,q.n+m.length,q.k,q.o,q.fz⟩)) _ _ g (Inv.rebind d hTk A hlo hro hrb (aP _) hcn hd (λb p W hp=>rH _ λer=>W ((d.mem.inj c b q p J hp er).resolve_right λhh=>by rw [hqz] at hh;cases hh.1).symm)
      (.inl ⟨_,_,dk _ _ _,vg g2,⟨_,e',fz,rfl,by simp [g4],F,by rw [hssz];exact g6,?_,.inr (by rw [hssz];exact g8)⟩⟩) (λp hp=>?_) (by simp [setObj]) ?_ (λ_ _=>D) ?_))
     ·show ((splA S (q.o+q.n*tr.length) (m.flatMap (vals tr))).toList.drop q.o).take _=_;rw [Bi (by omega),bH,g4,H6,<-g7,g4];have hdl:(S.toList.drop q.o).length=S.size - q.o:=by simp
      rw [f9,<-fi,ul (by rw [bH,fZ,hdl,Z];omega)];rw [lu (by rw [bH,fZ,hdl,Z];omega)]
     ·simp only [ak] at hp;subst hp;refine ⟨by have:=d.mem.dom c q J;simpa [setObj] using this,λb p' W hp' er=>W ((d.mem.inj b c p' q hp' J er).resolve_right λhh=>by rw [hqz] at hh;cases hh.2),d.new c q J,hqz⟩
     ·exact d.fr.write ((d.new c q J).imp (λ⟨q0,h,hr⟩=>⟨c,q0,CJ h L,hr⟩) id) _
     ·simp only [VR];exact .inl ⟨_,dk _ _ _,rfl⟩
    ·refine grow (base:=some ⟨q.r,q.o,none⟩) (cp:=q.k) (by rw [E,g4]) ?_ (by omega);have hfl:=nj (t:=tr) l;exact run_firstCells_some w.drew i.size l.length ⟨q.r,q.o,none⟩ l.length q.k _ (by rw [hfl,k2]) (Ad (off:=0) (w:=w.drew) g2 (m:=l.length*tr.length) (by rw [g7,ch,nM]))
   ·rw [J] at U;cases U
  ·rcases E with ⟨q',J,E⟩ | ⟨J,ao,E⟩
   ·rw [J] at U;cases U
   ·by_cases h0:m.length=0
    ·have hm0:m=[]:=sQ h0;subst hm0;have f:=nS (P:=P) (X:=.slice ao 0 0) (w':=w) ho hx ht λY=>by
      rw [E];have:=run_append_nothing (P:=P) w t t2 Y e i O hi ao 0 0 (aP _) (a.eval y) (by simpa using B);simpa using this
     refine sP f (hn _ (upd ι c none) _ _ g (Inv.rebind d hTk A hlo hro hrb (aP _) hcn hd (λ_ _ _ _=>rfl) (.inr ⟨dk _ _ _,tr,rfl⟩) (λq G=>by cases G) (aP _) d.fr (λ_ _=>D) ?_));unfold VR;exact .inr ⟨dk _ _ _,_,rfl⟩
    ·exact grow (base:=ao) (cp:=0) (by rw [E];rfl) (HD _ _ _) (by simp;omega)
 ·cases g
theorem Az {α:Type} {E:List Ent} (G:∀x∈E,fp P x) {n fr:Nat} {ι0 ι:Inj} {w0:Base} {s:St} {o:Oper} {a:Act} {w:World} (A:Inv n ι0 w0 ι s a w)
  (p:∀b,fr<=b->ι b=none) (C:s.nb<=fr) {k:St->Option α} {J:V->St->Option α} {z:α} (h:K4 P E n fr o s k J=some z)
  {next:Act->World->Prop} {Q:Exit->Act->World->Prop}
  (B:∀s' c i w',k s'=some z->Inv n ι0 w0 c s' i w'->next i w')
  (hp:∀v s' c x i w',J v s'=some z->VR c v x->Inv n ι0 w0 c s' i w'->Q (.panic [{ v:=x,recovered:=false }]) i w'):
  o.wp P a w next Q:=by
 unfold K4 at h;split at h
 ·rename_i I y;split at h
  ·rename_i g d;split at h
   ·rename_i f cap O R;obtain ⟨l,N,h⟩:=ar h;obtain ⟨r,u,M⟩:=uX G h;split at u
    ·cases u
    rename_i q;simp only [az] at q;obtain ⟨m,args,F⟩:=I;simp only at d;subst d;refine ze y A (λb K _=>p b K) O R N q.1 q.2 (M _ λ_ _=>rfl) (λe c i w' _ t=>?_) (λe c x w' L t=>?_)
    ·rw [e] at u;exact B _ c i w' u t
    ·rw [e] at u;exact hp _ _ c x a w' u L t
   ·cases h
  ·rename_i d;obtain ⟨m,args,F⟩:=I;simp only at d;subst d;exact GG y A (p fr (aP _)) C h B
  ·exact Gt G A (λb D _=>p b D) h (λs' _ _ _ c i w' H _ j=>B s' c i w' H j) hp
 ·exact Gt G A (λb D _=>p b D) h (λs' _ _ _ c i w' H _ j=>B s' c i w' H j) hp
end Go.Abs
