
import Derived.Test.YtjkmipianfkncaaGreatDoorAbsN
import Derived.Deep.Upon
set_option linter.unusedSimpArgs false
set_option linter.unusedVariables false
set_option linter.defProp false
namespace Go.Abs
variable {P:Program}
def Gt:∀{t:List Lf} {x:den t},∀u∈vals t x,u.oneCell'=true
 | [],_,u,h=>by simp[vals]at h
 | [a],x,u,h=>by
  simp only[vals,uS]at h;subst h;cases a<;>rfl
 | a::b::l,x,u,h=>by
  simp only[vals,de]at h;rcases h with rfl | h
  ·cases a<;>rfl
  ·exact Gt (t:=b::l) u (by simpa using h)
def vW{t:List Lf}{l:List (den t)}:∀u∈l.flatMap (vals t),u.oneCell'=true:=by
 intro u h;obtain⟨x,_,hx⟩:=List.mem_flatMap.1 h;exact Gt u hx
def pF{t a:List Lf}{l:List (den t)}{m:List (den a)}(h:m7 t a l=some m):∃e:t=a,m=e▸l:=by
 unfold m7 at h;split at h
 ·rename_i e;simp only[ar]at h;exact⟨e,h.symm⟩
 ·cases h
def Bg{w:World}{r:Nat}{f:Array Value}{e:TypeId}{fr:Nat×Nat}(h:w.heap[r]?=some (.cells f e fr)){off o:Nat}{news:List Value}{m:Nat}(i:(((f.toList.drop o).take m).drop off).take news.length=news):
  ∀j u,news[j]?=some u->w.cell? ((⟨r,o+off,none⟩:Addr).add j)=some u:=by
 intro j u b;have c:j<news.length:=by
  rcases aF j news.length with d | d
  ·exact d
  ·rw[gU d]at b;cases b
 rw[nc,bB h];have a:=cb (λq:List Value=>q[j]?) i;simp only[qm c,nv,b]at a;by_cases g:off+j<m
 ·rw[qm g,nv]at a;simpa[gX]using a
 ·rw[gU (by rw[dq];omega)]at a;cases a
def Src.empty{w:World}{size:Nat}{E G:TypeId}(hd:P.underlying E=some (.slice G))(C:Option Addr):Src P size E (.slice C 0 0) 0 [] w:=by
 cases C with
 | none=>exact Src.ofNil w hd 0
 | some a=>exact Src.ofSlice w hd a 0 0 [] (by simp) (λj u F=>by simp at F) (λu J=>by cases J)
def IA(size:Nat)(b:Option Addr)(w:World):(Builtin.firstCells size 0 (.slice b 0 0)).run P w=.ok #[] w:=by
 cases b with
 | none=>exact run_firstCells_none _ _ _ _ _
 | some a=>exact run_firstCells_some w size 0 a 0 0 [] (by simp) (λj u c=>by simp at c)
def JY{ι:Inj}{H:List (Nat×Blk)}{nb:Nat}{w:World}(z:WR ι H nb w){b:V}{Y:Value}(f:VR ι b Y){tr:List Lf}{y:TypeId}{m:List (den tr)}(h:srcK P H tr y b=some m)
  {size:Nat} (hs:tr.length=size):Src P size y Y m.length (m.flatMap (vals tr)) w:=by
 unfold srcK at h;split at h
 ·rename_i e hd;split at h
  ·simp only[ar]at h;subst h;simp only[VR]at f;subst f;exact Src.ofNil w hd 0
  ·rename_i c;split at h
   case h_2=>cases h
   rename_i t l k;obtain⟨rfl,rfl⟩:=pF h;simp only[VR]at f;rcases jp z k with⟨q,E,D,fr,a,p,A,K,J,o,_⟩ | ⟨a,rfl⟩
   ·rcases f with⟨G,d,rfl⟩ | ⟨d,_⟩
    ·rw[d]at a;cases a;rw[<-A];refine Src.ofSlice w hd _ _ _ _ (by rw[nX,hs]) (Bg (off:=0) p (m:=m.length*t.length) ?_) vW;rw[o,bI,nT]
    ·rw[d]at a;cases a
   ·rcases f with⟨q,d,_⟩ | ⟨d,s,rfl⟩
    ·rw[d]at a;cases a
    ·exact Src.empty hd s
  ·rename_i L c j n _;split at h
   case h_2=>cases h
   rename_i t l k;split at h
   case h_2=>cases h
   rename_i v;have v:=bG v;obtain⟨g,h⟩:=eZ h;have g:=aH g;obtain⟨rfl,rfl⟩:=pF h;have x:((l.drop j).take n).length=n:=by rw[dq,ba];omega
   simp only[VR]at f;rw[x];rcases f with⟨q,cp,off,d,M,I,rfl⟩ | ⟨d,⟨rfl,_⟩,s,rfl⟩
   ·rcases jp z k with⟨G,E,D,fr,a,p,A,K,J,o,_⟩ | ⟨a,rfl⟩
    ·rw[d]at a;cases a;refine Src.ofSlice w hd _ _ _ _ (by rw[nX,x,hs]) ?_ vW;by_cases r:0<n
     ·rw[I r,v];refine Bg p (m:=l.length*t.length) ?_;rw[o,<-xY,nX,x,<-xg]
     ·have r:n=0:=by omega
      subst r;intro j u B;simp at B
    ·rw[d]at a;cases a
   ·simp only[ot,List.flatMap_nil];exact Src.empty hd s
  ·cases h
 ·rename_i hd;split at h
  case h_2=>cases h
  rename_i l;obtain⟨rfl,rfl⟩:=pF h;simp only[VR]at f;subst f;simp only[aN,fR]at hs;subst hs;have:=Src.ofString (P:=P) w hd ⟨l.toArray⟩;have F:byteCells ⟨l.toArray⟩=(l.map λb=>((b.toNat:Nat):Int)).flatMap (vals [.i .u8]):=by
   rw[rC];simp[byteCells]
  have C:(ByteArray.mk l.toArray).size=(l.map λb=>((b.toNat:Nat):Int)).length:=by rw[AQ];rfl
  rw[F,C]at this;exact this
 ·cases h
def Inv.rebind {n:Nat} {ι0 ι:Inj} {w0:Base} {w w':World} {s s1:St} {a:Act} {c X:Nat} {ρ:Option Rf} {blk:Blk} {v:V} {x:Value} {dst:Option Nat} (J:Inv n ι0 w0 ι s a w)
  (hT:TR (upd ι c ρ) s1.T a.tmps) (hH:∀b y,b≠c->look s1.H b=some y->y≠.dead->∃y0,look s.H b=some y0/\y0≠.dead/\(∀q o,BR ι q y0 o->BR (upd ι c ρ) q y o)/\∀t,y0=.rows t []->y=.rows t [])
  (hlo:s1.lo=s.lo) (W:s1.ro=s.ro) (hrb:s1.rb=s.rb) (hnb:s.nb<=X) (hc:c<X) (hd:uX n dst=true)
  (h1:∀b q,b≠c->ι b=some (some q)->w'.heap[q.r]?=w.heap[q.r]?) (h2:BW (upd ι c ρ) w' c blk) (h3:∀q,ρ=some q->q.r<w'.heap.size/\(∀b Z,b≠c->ι b=some (some Z)->Z.r≠q.r)/\
   ((∃q0,ι0 c=some (some q0)/\q0.r=q.r)\/w0.w.heap.size<=q.r)/\q.fz=false) (h4:w.heap.size<=w'.heap.size) (h5:Fr (roI ι0 s.ro) w0.w w') (h6:∀q,ι0 c=some q->s.rb<=c)
  (hv:VR (upd ι c ρ) v x):Inv n ι0 w0 (upd ι c ρ) (s1.app dst (some v) [(c,blk)] X) (a.put dst x) w':=by
 have C:∀b,b≠c->upd ι c ρ b=ι b:=λb E=>by simp [upd,E]
 have F:upd ι c ρ c=some ρ:=by simp [upd]
 refine ⟨by rw [mZ];exact J.size,by rw [jr];exact J.defers,hT.app J.size hd (λu hu=>by cases hu;exact hv),⟨λb b' q Z Y Q e3=>?_,λb q e=>?_,λb q e=>?_,λb y hl U=>?_⟩,λb q e=>?_,λb q e=>?_,?_,?_,λb q e hq=>?_,by simp only [St.app,W];exact J.gl⟩
 ·by_cases E:b=c
  ·by_cases G:b'=c
   ·exact .inl (by rw [E,G])
   ·subst E;rw [F] at Y;rw [C b' G] at Q;simp only [ar] at Y;exact absurd e3.symm ((h3 q Y).2.1 b' Z G Q)
  ·rw [C b E] at Y;by_cases G:b'=c
   ·subst G;rw [F] at Q;simp only [ar] at Q;exact absurd e3 ((h3 Z Q).2.1 b q E Y)
   ·rw [C b' G] at Q;exact J.mem.inj b b' q Z Y Q e3
 ·by_cases E:b=c
  ·rw [E];exact hc
  ·rw [C b E] at e;have:=J.mem.low b q e;exact qV this hnb
 ·by_cases E:b=c
  ·subst E;rw [F] at e;simp only [ar] at e;exact (h3 q e).1
  ·rw [C b E] at e;exact qV (J.mem.dom b q e) h4
 ·simp only [St.app,dB,dI,aR] at hl;split at hl
  ·rename_i e;subst e;simp only [ar] at hl;subst hl;exact h2
  ·rename_i O;obtain ⟨y0,g1,g2,g3,g4⟩:=hH b y (λe=>O e.symm) hl U;exact (J.mem.blk b y0 g1 g2).map (C b (λe=>O e.symm)) (λq hq=>h1 b q (λe=>O e.symm) hq) g3 g4
 ·by_cases E:b=c
  ·subst E;exact .inr (by simp only [St.app,hrb];exact h6 q e)
  ·rw [C b E];simp only [St.app,hrb];exact J.ext b q e
 ·by_cases E:b=c
  ·subst E;rw [F] at e;simp only [ar] at e;exact (h3 q e).2.2.1
  ·rw [C b E] at e;exact J.new b q e
 ·simp only [St.app,W];exact h5
 ·simp only [St.app,hlo];exact J.low
 ·simp only [St.app,W];by_cases E:b=c
  ·subst E;rw [F] at e;simp only [ar] at e;have:=(h3 q e).2.2.2;rw [this] at hq;cases hq
  ·rw [C b E] at e;exact J.fz b q e hq
def PG{b c:Nat}(h:isIn [c] b=false):b≠c:=by
 rintro rfl;simp[isIn]at h
def zo{ι:Inj}{c:Nat}{ρ:Option Rf}:∀b,isIn [c] b=false->∀q,ι b=some q->upd ι c ρ b=some q:=by
 intro b d q a;have:=PG d;simp[upd,this,a]
def oM{o:Oper}{a:Act}{w:World}{args:Array Operand}{b:Array TypeId}{x y:Operand}{t d:TypeId}{X:Value}{w':World}(g:o.op=.call ⟨.builtin .append,args,b⟩)(hx:args.toList=[x,y])(f:b.toList=[t,d])
  (h:∀i,(Builtin.append_ #[t,d] i #[a.eval x,a.eval y]).run P w=.ok X w'):(execOp a.eval o).run P w=.ok (.value X) w':=by
 have e:args.map a.eval=#[a.eval x,a.eval y]:=by apply mS;simp[hx]
 have c:b=#[t,d]:=by apply mS;simp[f]
 simp only[execOp,g,resolve,e,c,aw,aB,ay,invoke,builtin,h]
def tD{o:Oper}{a:Act}{w w':World}{X:Value}(h:(execOp a.eval o).run P w=.ok (.value X) w'){next:Act->World->Prop}{Q:Exit->Act->World->Prop}(b:next (a.put o.dst X) w'):o.wp P a w next Q:=by
 unfold Oper.wp;rw[h];exact b
def LL{a cap b:Nat}(d:a<=gI)(h:cap<a)(f:b<=1048576):Builtin.nextslicecap a cap*b<=281474976710656:=by
 have d:a<=67108864:=d;have key:Builtin.nextslicecap a cap<=2*a+768:=by
  have g:∀(m c:Nat),c<=2*a+768->Builtin.growBy a m c<=2*a+768:=by
   intro m
   induction m with
   | zero=>intro c hc;exact hc
   | succ m ih=>
    intro c hc;unfold Builtin.growBy;split
    ·exact hc
    ·exact ih _ (by omega)
  unfold Builtin.nextslicecap;split
  ·omega
  ·split
   ·omega
   ·exact g 4 cap (by omega)
 have e:=Ee (show Builtin.nextslicecap a cap<=134218496 by omega) f;exact qu e (by decide)
def HG{ι:Inj}{tr:List Lf}{l m:List (den tr)}{e:TypeId}{zc:Array Value}{cap r:Nat}(f:zc.size=tr.length)(a:l.length+m.length<=cap):
  BR ι (Rf.of r (l.length+m.length) cap) (.rows tr (l++m)) (.cells ((l.flatMap (vals tr)++m.flatMap (vals tr)).toArray++Builtin.zeroCells zc (cap - (l.length+m.length))) e):=by
 have d:=nX (t:=tr) l;have c:=nX (t:=tr) m;have b:(Builtin.zeroCells zc (cap - (l.length+m.length))).size=(cap - (l.length+m.length))*tr.length:=by simp[Builtin.zeroCells,f]
 refine⟨_,e,(0,0),rfl,by simp,a,?_,?_,.inr (su _)⟩
 ·simp only[Array.size_append,b,AA,bw,d,c];rw[<-gY,<-gY,cU];exact n8 _ (by omega)
 ·rw[xp,bw,gY,LF];have:l.length*tr.length+m.length*tr.length=(l.flatMap (vals tr)++m.flatMap (vals tr)).length:=by rw[bw,d,c]
  rw[this];exact xJ
def yN{tr:List Lf}{e:TypeId}(h:OW P tr e=true):∃i z,P.info? e=some i/\i.zero=some z/\z.cells.size=tr.length/\tr.length=i.size/\0<tr.length/\i.bytes<=1048576:=by
 unfold OW at h;split at h
 ·rename_i i hi;split at h
  ·rename_i z c;simp only[aC,jn]at h;obtain⟨f,g,a,b⟩:=h;have d:i.size=P.cellsOf e:=by unfold Program.cellsOf;rw[hi];rfl
   have a:0<P.cellsOf e:=aH a;exact⟨i,z,hi,c,by omega,by omega,by omega,aH b⟩
  ·cases h
 ·cases h
def H9{α:Type}{n fr:Nat}{ι0 ι:Inj}{w0:Base}{s:St}{o:Oper}{a:Act}{w:World}{args:Array Operand}{tys:Array TypeId}(ho:o.op=.call ⟨.builtin .append,args,tys⟩)(d:Inv n ι0 w0 ι s a w)
  (W:ι fr=none) (hge:s.nb<=fr) {k:St->Option α} {z:α} (h:FT P n fr o.dst args.toList tys.toList s k=some z)
  {next:Act->World->Prop} {Q:Exit->Act->World->Prop} (hn:∀s' ι' a' w',k s'=some z->Inv n ι0 w0 ι' s' a' w'->next a' w'):o.wp P a w next Q:=by
 unfold FT at h;split at h
 case h_2=>cases h
 rename_i x y t t2 hd hx ht;split at h
 case h_2=>cases h
 rename_i e N;obtain⟨u,hu,U⟩:=av h;obtain⟨v,hv,g⟩:=av U;clear h U;have G:=br d.tmps hu;have hY:=br d.tmps hv;have hfr0:∀q,ι0 fr=some q->s.rb<=fr:=by
  intro q E;rcases d.ext fr q E with h | h
  ·rw[W]at h;cases h
  ·exact h
 split at g
 ·
  simp only[VR]at G;split at g
  case h_2=>cases g
  rename_i tr _;split at g
  case h_2=>cases g
  rename_i I;obtain⟨i,zv,hi,hz,k1,k2,k3,k4⟩:=yN I;obtain⟨m,hm,g⟩:=av g;obtain⟨C,g⟩:=eZ g;have C:=aH C;have hle':m.length<=67108864:=C;have B:=JY d.mem hY hm k2;have hTm:=d.tmps.mono (pQ (r:=none) W);have A:∀{ρ:Option Rf} b y,b≠fr->look s.H b=some y->y≠.dead->∃L,look s.H b=some L/\L≠.dead/\(∀q o,BR ι q L o->BR (upd ι fr ρ) q y o)/\∀t,L=.rows t []->y=.rows t []:=
   λb y _ hl hdd=>⟨y,hl,hdd,λq o hb=>BR.mono (pQ W) hb,λ_ h=>h⟩
  by_cases h0:m.length=0
  ·have hm0:m=[]:=tU h0;subst hm0;have f:=oM (P:=P) (X:=.slice none 0 0) (w':=w) ho hx ht λV=>by
    rw[G];have:=run_append_nothing (P:=P) w t t2 V e i N hi none 0 0 (aQ _) (a.eval y) (by simpa using B);simpa using this
   refine tD f (hn _ (upd ι fr none) _ _ g (Inv.rebind d hTm A rfl rfl rfl (EW _ _) (by omega) hd (λ_ _ _ _=>rfl) (.inr ⟨dp _ _ _,tr,rfl⟩) (λq E=>by cases E) (aQ _) d.fr hfr0 ?_));unfold VR;exact .inr ⟨dp _ _ _,_,rfl⟩
  ·have O:m.length<=grownCap w m.length 0 e:=by simp only[grownCap,Question.cut];omega
   have f:=oM (P:=P) (X:=.slice (some ⟨w.heap.size,0,none⟩) m.length (grownCap w m.length 0 e))
     (w':=w.drew.alloc (.cells ((m.flatMap (vals tr)).toArray++Builtin.zeroCells zv.cells (grownCap w m.length 0 e - m.length)) e)) ho hx ht λV=>by
    rw[G];have:=run_append_grow_src (P:=P) w t t2 V e i zv N hi hz none 0 0 [] (run_firstCells_none _ _ _ _ _) (a.eval y) m.length _ B (by omega) (by omega) (LL (by simpa using C) (by omega) k4);simpa using this
   refine tD f (hn _ (upd ι fr (some (Rf.of w.heap.size (m.length) (grownCap w m.length 0 e)))) _ _ g (Inv.rebind d (d.tmps.mono (pQ W)) A rfl rfl rfl (EW _ _) (by omega) hd (λb q hb E=>?_)
    (.inl ⟨_,_,dp _ _ _,lW _ _,?_⟩) (λq E=>?_) (by show w.heap.size<=(w.heap.push _).size;simp) (by exact(d.fr.draws (w.drawn+1)).alloc _) hfr0 ?_))
   ·exact jI _ _ (AH (d.mem.dom b q E))
   ·have:=HG (ι:=upd ι fr (some (Rf.of w.heap.size (m.length) (grownCap w m.length 0 e)))) (tr:=tr) (l:=[]) (m:=m) (e:=e) (zc:=zv.cells) (cap:=grownCap w m.length 0 e) (r:=w.heap.size) k1 (by simpa using O);simpa using this
   ·simp only[ar]at E;subst E;refine⟨by show w.heap.size<(w.heap.push _).size;simp,λb q' _ hq'=>AH (d.mem.dom b q' hq'),.inr d.fr.size,rfl⟩
   ·simp only[VR];exact .inl ⟨_,dp _ _ _,rfl⟩
 ·rename_i c;simp only[VR]at G;split at g
  case h_2=>cases g
  rename_i tr l hb;split at g
  case h_2=>cases g
  rename_i I;simp only[aC]at I;obtain⟨I,R,D⟩:=I;have R:=aH R;have D:=aH D;obtain⟨i,zv,hi,hz,k1,k2,k3,k4⟩:=yN I;obtain⟨m,hm,g⟩:=av g;obtain⟨C,g⟩:=eZ g;have C:=aH C;have hle':l.length+m.length<=67108864:=C;have B:=JY d.mem hY hm k2;have hTk:∀{ρ:Option Rf},TR (upd ι c ρ) (s.kill [c]).T a.tmps:=by
   intro ρ;rw[St.kill_eq];exact d.tmps.kill zo
  have A:∀{ρ:Option Rf} b y,b≠c->look (s.kill [c]).H b=some y->y≠.dead->∃L,look s.H b=some L/\L≠.dead/\(∀q o,BR ι q L o->BR (upd ι c ρ) q y o)/\∀t,L=.rows t []->y=.rows t []:=by
   intro ρ b y Y hl hdd;rw[St.kill_eq]at hl;simp only[uK]at hl;cases hy:look s.H b with
   | none=>rw[hy]at hl;cases hl
   | some L=>
    rw[hy]at hl;simp only[fi,ar]at hl;subst hl;exact⟨L,rfl,by rintro rfl;exact hdd rfl,λq o hbr=>BR.kill zo hbr,by rintro t rfl;rfl⟩
  have hlo:(s.kill [c]).lo=s.lo:=by rw[St.kill_eq]
  have hro:(s.kill [c]).ro=s.ro:=by rw[St.kill_eq]
  have hrb:(s.kill [c]).rb=s.rb:=by rw[St.kill_eq]
  have hcn:c<s.nb:=by
   rcases d.mem.blk c _ hb (by simp)with⟨q,_,h1,_⟩ | ⟨h1,_⟩
   ·exact d.mem.low c _ h1
   ·exact d.mem.low c _ h1
  have grow:∀{base:Option Addr} {cp:Nat},a.eval x=.slice base l.length cp->(Builtin.firstCells i.size l.length (.slice base l.length cp)).run P w.drew=.ok (l.flatMap (vals tr)).toArray w.drew->cp<l.length+m.length->o.wp P a w next Q:=by
   intro base cp G hold hlt;have O:l.length+m.length<=grownCap w (l.length+m.length) cp e:=by simp only[grownCap,Question.cut];omega
   have f:=oM (P:=P) (X:=.slice (some ⟨w.heap.size,0,none⟩) (l.length+m.length) (grownCap w (l.length+m.length) cp e))
     (w':=w.drew.alloc (.cells ((l.flatMap (vals tr)++m.flatMap (vals tr)).toArray++Builtin.zeroCells zv.cells (grownCap w (l.length+m.length) cp e - (l.length+m.length))) e)) ho hx ht λV=>by
    rw[G];exact run_append_grow_src (P:=P) w t t2 V e i zv N hi hz base l.length cp _ hold (a.eval y) m.length _ B hlt (by omega) (LL C hlt k4)
   refine tD f (hn _ (upd ι c (some (Rf.of w.heap.size (l.length+m.length) (grownCap w (l.length+m.length) cp e)))) _ _ g (Inv.rebind d hTk A hlo hro hrb (aQ _) hcn hd (λb q hb E=>?_)
    (.inl ⟨_,_,dp _ _ _,lW _ _,HG k1 O⟩) (λq E=>?_) (by show w.heap.size<=(w.heap.push _).size;simp) (by exact(d.fr.draws (w.drawn+1)).alloc _) (λ_ _=>D) ?_))
   ·exact jI _ _ (AH (d.mem.dom b q E))
   ·simp only[ar]at E;subst E;refine⟨by show w.heap.size<(w.heap.push _).size;simp,λb q' _ hq'=>AH (d.mem.dom b q' hq'),.inr d.fr.size,rfl⟩
   ·simp only[VR];exact .inl ⟨_,dp _ _ _,rfl⟩
  rcases jp d.mem hb with⟨q,S,e',fz,U,g2,g4,g5,g6,g7,g8⟩ | ⟨U,rfl⟩
  ·rcases G with⟨q',J,G⟩ | ⟨J,_⟩
   ·rw[J]at U;cases U;have Z:q.fz=false:=by
     cases hc:q.fz with
     | false=>rfl
     | true=>have:=d.fz c q J hc;omega
    have g8:=g8.resolve_left (by rw[Z];simp);by_cases F:q.n+m.length<=q.k
    ·have hmz:=nX (t:=tr) m;have hbound:q.o+q.n*tr.length+m.length*tr.length<=S.size:=by
      have h1:=n8 tr.length F;rw[gY]at h1;omega
     have M:∀j,j<(m.flatMap (vals tr)).length->w.cell? ⟨q.r,q.o+q.n*i.size+j,none⟩=S[q.o+q.n*tr.length+j]?:=by
      intro j hj;rw[bB g2,<-k2]
     have hfz:∀j,j<(m.flatMap (vals tr)).length->w.frozen? ⟨q.r,q.o+q.n*i.size+j,none⟩=false:=by
      intro j hj;exact qC g2 g8 (by rw[<-k2];omega)
     have hst:=kJ (P:=P) q.r (q.o+q.n*i.size) e' fz (m.flatMap (vals tr)) 0 S w g2 g8 (by rw[hmz,<-k2];omega) vW;have K:=run_storeCells_cells (P:=P) q.r (q.o+q.n*i.size) (m.flatMap (vals tr)) 0 w (by
      intro j hj;rw[cG,M j hj];simp;omega) (by intro j hj;rw[cG];exact hfz j hj) vW
     have hw:w.setCells q.r (q.o+q.n*i.size) (m.flatMap (vals tr))=setObj w q.r (.cells (splA S (q.o+q.n*tr.length) (m.flatMap (vals tr))) e' fz):=by
      rw[hst]at K;simp only[cG,wT,jD,<-k2]at K;rw[<-k2];exact K.symm
     have f:=oM (P:=P) (X:=.slice (some ⟨q.r,q.o,none⟩) (q.n+m.length) q.k) (w':=setObj w q.r (.cells (splA S (q.o+q.n*tr.length) (m.flatMap (vals tr))) e' fz)) ho hx ht λV=>by
      rw[G,<-hw];exact run_append_room_src (P:=P) w t t2 V e i N hi q.r q.o q.n q.k (a.eval y) m.length _ B F (λj hj=>by rw[M j hj];simp;omega) hfz
     have hssz:(splA S (q.o+q.n*tr.length) (m.flatMap (vals tr))).size=S.size:=yb (by rw[hmz];exact hbound)
     refine tD f (hn _ (upd ι c (some ⟨q.r,q.n+m.length,q.k,q.o,q.fz⟩)) _ _ g (Inv.rebind d hTk A hlo hro hrb (aQ _) hcn hd (λb p Y hp=>rR _ λer=>Y ((d.mem.inj c b q p J hp er).resolve_right λhh=>by rw[Z]at hh;cases hh.1).symm)
      (.inl ⟨_,_,dp _ _ _,yp g2,⟨_,e',fz,rfl,by simp[g4],F,by rw[hssz];exact g6,?_,.inr (by rw[hssz];exact g8)⟩⟩) (λp hp=>?_) (by simp[setObj]) ?_ (λ_ _=>D) ?_))
     ·show((splA S (q.o+q.n*tr.length) (m.flatMap (vals tr))).toList.drop q.o).take _=_;rw[Dm (by omega),bw,g4,LF,<-g7,g4];have hdl:(S.toList.drop q.o).length=S.size - q.o:=by simp
      rw[gY,<-gG,uC (by rw[bw,dq,hdl,hmz];omega)];rw[iR (by rw[bw,dq,hdl,hmz];omega)]
     ·simp only[ar]at hp;subst hp;refine⟨by have:=d.mem.dom c q J;simpa[setObj]using this,λb p' Y hp' er=>Y ((d.mem.inj b c p' q hp' J er).resolve_right λhh=>by rw[Z]at hh;cases hh.2),d.new c q J,Z⟩
     ·exact d.fr.write ((d.new c q J).imp (λ⟨q0,h,hr⟩=>⟨c,q0,BQ h R,hr⟩) id) _
     ·simp only[VR];exact .inl ⟨_,dp _ _ _,rfl⟩
    ·refine grow (base:=some ⟨q.r,q.o,none⟩) (cp:=q.k) (by rw[G,g4]) ?_ (by omega);have hfl:=nX (t:=tr) l;exact run_firstCells_some w.drew i.size l.length ⟨q.r,q.o,none⟩ l.length q.k _ (by rw[hfl,k2]) (Bg (off:=0) (w:=w.drew) g2 (m:=l.length*tr.length) (by rw[g7,bI,nT]))
   ·rw[J]at U;cases U
  ·rcases G with⟨q',J,G⟩ | ⟨J,ao,G⟩
   ·rw[J]at U;cases U
   ·by_cases h0:m.length=0
    ·have hm0:m=[]:=tU h0;subst hm0;have f:=oM (P:=P) (X:=.slice ao 0 0) (w':=w) ho hx ht λV=>by
      rw[G];have:=run_append_nothing (P:=P) w t t2 V e i N hi ao 0 0 (aQ _) (a.eval y) (by simpa using B);simpa using this
     refine tD f (hn _ (upd ι c none) _ _ g (Inv.rebind d hTk A hlo hro hrb (aQ _) hcn hd (λ_ _ _ _=>rfl) (.inr ⟨dp _ _ _,tr,rfl⟩) (λq E=>by cases E) (aQ _) d.fr (λ_ _=>D) ?_));unfold VR;exact .inr ⟨dp _ _ _,_,rfl⟩
    ·exact grow (base:=ao) (cp:=0) (by rw[G];rfl) (IA _ _ _) (by simp;omega)
 ·cases g
def Ak{α:Type}{E:List Ent}(D:∀x∈E,gg P x){n fr:Nat}{ι0 ι:Inj}{w0:Base}{s:St}{o:Oper}{a:Act}{w:World}(A:Inv n ι0 w0 ι s a w)
  (p:∀b,fr<=b->ι b=none) (H:s.nb<=fr) {k:St->Option α} {J:V->St->Option α} {z:α} (h:KR P E n fr o s k J=some z)
  {next:Act->World->Prop} {Q:Exit->Act->World->Prop}
  (B:∀s' c i w',k s'=some z->Inv n ι0 w0 c s' i w'->next i w')
  (hp:∀v s' c x i w',J v s'=some z->VR c v x->Inv n ι0 w0 c s' i w'->Q (.panic [{ v:=x,recovered:=false }]) i w'):
  o.wp P a w next Q:=by
 unfold KR at h;split at h
 ·rename_i I y;split at h
  ·rename_i g d;split at h
   ·rename_i f cap hd L;obtain⟨l,O,h⟩:=av h;obtain⟨r,u,K⟩:=vG D h;split at u
    ·cases u
    rename_i q;simp only[aC]at q;obtain⟨m,args,F⟩:=I;simp only at d;subst d;refine zP y A (λb M _=>p b M) hd L O q.1 q.2 (K _ λ_ _=>rfl) (λj c i w' _ t=>?_) (λj c x w' N t=>?_)
    ·rw[j]at u;exact B _ c i w' u t
    ·rw[j]at u;exact hp _ _ c x a w' u N t
   ·cases h
  ·rename_i d;obtain⟨m,args,F⟩:=I;simp only at d;subst d;exact H9 y A (p fr (aQ _)) H h B
  ·exact FU D A (λb C _=>p b C) h (λs' _ _ _ c i w' G _ e=>B s' c i w' G e) hp
 ·exact FU D A (λb C _=>p b C) h (λs' _ _ _ c i w' G _ e=>B s' c i w' G e) hp
end Go.Abs
