
import Derived.Test.YtibehcmomiplnaaGreatDoorAbsN
import Derived.Deep.Upon
set_option linter.unusedSimpArgs false
set_option linter.unusedVariables false
set_option linter.defProp false
namespace Go.Abs
variable {P:Program}
def IK:∀{t:List Lf} {x:den t},∀u∈vals t x,u.oneCell'=true
 | [],_,u,h=>by simp[vals]at h
 | [a],x,u,h=>by
  simp only[vals,tK]at h;subst h;cases a<;>rfl
 | a::b::l,x,u,h=>by
  simp only[vals,cN]at h;rcases h with rfl | h
  ·cases a<;>rfl
  ·exact IK (t:=b::l) u (by simpa using h)
def ww{t:List Lf}{l:List (den t)}:∀u∈l.flatMap (vals t),u.oneCell'=true:=by
 intro u h;obtain⟨x,_,hx⟩:=List.mem_flatMap.1 h;exact IK u hx
def nX{t a:List Lf}{l:List (den t)}{m:List (den a)}(h:mG t a l=some m):∃e:t=a,m=e▸l:=by
 unfold mG at h;split at h
 ·rename_i e;simp only[ar]at h;exact⟨e,h.symm⟩
 ·cases h
def CJ{w:World}{r:Nat}{f:Array Value}{e:TypeId}{fr:Nat×Nat}(h:w.heap[r]?=some (.cells f e fr)){off o:Nat}{news:List Value}{m:Nat}(g:(((f.toList.drop o).take m).drop off).take news.length=news):
  ∀j u,news[j]?=some u->w.cell? ((⟨r,o+off,none⟩:Addr).add j)=some u:=by
 intro j u c;have d:j<news.length:=by
  rcases aN j news.length with b | b
  ·exact b
  ·rw[gh b]at c;cases c
 rw[nZ,bh h];have a:=cT (λq:List Value=>q[j]?) g;simp only[ma d,lW,c]at a;by_cases i:off+j<m
 ·rw[ma i,lW]at a;simpa[gR]using a
 ·rw[gh (by rw[cS];omega)]at a;cases a
def Src.empty{w:World}{size:Nat}{E J:TypeId}(F:P.underlying E=some (.slice J))(C:Option Addr):Src P size E (.slice C 0 0) 0 [] w:=by
 cases C with
 | none=>exact Src.ofNil w F 0
 | some a=>exact Src.ofSlice w F a 0 0 [] (by simp) (λj u O=>by simp at O) (λu G=>by cases G)
def KL(size:Nat)(b:Option Addr)(w:World):(Builtin.firstCells size 0 (.slice b 0 0)).run P w=.ok #[] w:=by
 cases b with
 | none=>exact run_firstCells_none _ _ _ _ _
 | some a=>exact run_firstCells_some w size 0 a 0 0 [] (by simp) (λj u c=>by simp at c)
def NW{ι:Inj}{H:List (Nat×Blk)}{nb:Nat}{w:World}(z:WR ι H nb w){b:V}{Y:Value}(f:VR ι b Y){tr:List Lf}{B:TypeId}{m:List (den tr)}(h:srcK P H tr B b=some m)
  {size:Nat} (hs:tr.length=size):Src P size B Y m.length (m.flatMap (vals tr)) w:=by
 unfold srcK at h;split at h
 ·rename_i e g;split at h
  ·simp only[ar]at h;subst h;simp only[VR]at f;subst f;exact Src.ofNil w g 0
  ·rename_i c;split at h
   case h_2=>cases h
   rename_i t l p;obtain⟨rfl,rfl⟩:=nX h;simp only[VR]at f;rcases jQ z p with⟨q,F,K,fr,a,y,A,C,D,r,_⟩ | ⟨a,rfl⟩
   ·rcases f with⟨I,d,rfl⟩ | ⟨d,_⟩
    ·rw[d]at a;cases a;rw[<-A];refine Src.ofSlice w g _ _ _ _ (by rw[oP,hs]) (CJ (off:=0) y (m:=m.length*t.length) ?_) ww;rw[r,dk,oq]
    ·rw[d]at a;cases a
   ·rcases f with⟨q,d,_⟩ | ⟨d,v,rfl⟩
    ·rw[d]at a;cases a
    ·exact Src.empty g v
  ·rename_i N c j n _;split at h
   case h_2=>cases h
   rename_i t l p;split at h
   case h_2=>cases h
   rename_i o;have o:=bB o;obtain⟨k,h⟩:=ei h;have k:=aM k;obtain⟨rfl,rfl⟩:=nX h;have x:((l.drop j).take n).length=n:=by rw[cS,cj];omega
   simp only[VR]at f;rw[x];rcases f with⟨q,cp,off,d,M,L,rfl⟩ | ⟨d,⟨rfl,_⟩,v,rfl⟩
   ·rcases jQ z p with⟨I,F,K,fr,a,y,A,C,D,r,_⟩ | ⟨a,rfl⟩
    ·rw[d]at a;cases a;refine Src.ofSlice w g _ _ _ _ (by rw[oP,x,hs]) ?_ ww;by_cases s:0<n
     ·rw[L s,o];refine CJ y (m:=l.length*t.length) ?_;rw[r,<-xq,oP,x,<-xj]
     ·have s:n=0:=by omega
      subst s;intro j u J;simp at J
    ·rw[d]at a;cases a
   ·simp only[nr,List.flatMap_nil];exact Src.empty g v
  ·cases h
 ·rename_i g;split at h
  case h_2=>cases h
  rename_i l;obtain⟨rfl,rfl⟩:=nX h;simp only[VR]at f;subst f;simp only[aC,aX]at hs;subst hs;have:=Src.ofString (P:=P) w g ⟨l.toArray⟩;have E:byteCells ⟨l.toArray⟩=(l.map λb=>((b.toNat:Nat):Int)).flatMap (vals [.i .u8]):=by
   rw[sM];simp[byteCells]
  have G:(ByteArray.mk l.toArray).size=(l.map λb=>((b.toNat:Nat):Int)).length:=by rw[vN];rfl
  rw[E,G]at this;exact this
 ·cases h
def Inv.rebind {n:Nat} {ι0 ι:Inj} {w0:Base} {w w':World} {s s1:St} {a:Act} {c Q:Nat} {ρ:Option Rf} {blk:Blk} {v:V} {x:Value} {dst:Option Nat} (J:Inv n ι0 w0 ι s a w)
  (hT:TR (upd ι c ρ) s1.T a.tmps) (hH:∀b y,b≠c->look s1.H b=some y->y≠.dead->∃Y,look s.H b=some Y/\Y≠.dead/\(∀q o,BR ι q Y o->BR (upd ι c ρ) q y o)/\∀t,Y=.rows t []->y=.rows t [])
  (hlo:s1.lo=s.lo) (U:s1.ro=s.ro) (hrb:s1.rb=s.rb) (hnb:s.nb<=Q) (hc:c<Q) (hd:vJ n dst=true)
  (h1:∀b q,b≠c->ι b=some (some q)->w'.heap[q.r]?=w.heap[q.r]?) (h2:BW (upd ι c ρ) w' c blk) (h3:∀q,ρ=some q->q.r<w'.heap.size/\(∀b q',b≠c->ι b=some (some q')->q'.r≠q.r)/\
   ((∃q0,ι0 c=some (some q0)/\q0.r=q.r)\/w0.w.heap.size<=q.r)/\q.fz=false) (h4:w.heap.size<=w'.heap.size) (h5:Fr (roI ι0 s.ro) w0.w w') (h6:∀q,ι0 c=some q->s.rb<=c)
  (hv:VR (upd ι c ρ) v x):Inv n ι0 w0 (upd ι c ρ) (s1.app dst (some v) [(c,blk)] Q) (a.put dst x) w':=by
 have C:∀b,b≠c->upd ι c ρ b=ι b:=λb E=>by simp [upd,E]
 have F:upd ι c ρ c=some ρ:=by simp [upd]
 refine ⟨by rw [nM];exact J.size,by rw [jU];exact J.defers,hT.app J.size hd (λu hu=>by cases hu;exact hv),⟨λb b' q q' Z O e3=>?_,λb q e=>?_,λb q e=>?_,λb y hl W=>?_⟩,λb q e=>?_,λb q e=>?_,?_,?_,λb q e hq=>?_,by simp only [St.app,U];exact J.gl⟩
 ·by_cases E:b=c
  ·by_cases G:b'=c
   ·exact .inl (by rw [E,G])
   ·subst E;rw [F] at Z;rw [C b' G] at O;simp only [ar] at Z;exact absurd e3.symm ((h3 q Z).2.1 b' q' G O)
  ·rw [C b E] at Z;by_cases G:b'=c
   ·subst G;rw [F] at O;simp only [ar] at O;exact absurd e3 ((h3 q' O).2.1 b q E Z)
   ·rw [C b' G] at O;exact J.mem.inj b b' q q' Z O e3
 ·by_cases E:b=c
  ·rw [E];exact hc
  ·rw [C b E] at e;have:=J.mem.low b q e;exact pt this hnb
 ·by_cases E:b=c
  ·subst E;rw [F] at e;simp only [ar] at e;exact (h3 q e).1
  ·rw [C b E] at e;exact pt (J.mem.dom b q e) h4
 ·simp only [St.app,eX,dQ,aV] at hl;split at hl
  ·rename_i e;subst e;simp only [ar] at hl;subst hl;exact h2
  ·rename_i X;obtain ⟨Y,g1,g2,g3,g4⟩:=hH b y (λe=>X e.symm) hl W;exact (J.mem.blk b Y g1 g2).map (C b (λe=>X e.symm)) (λq hq=>h1 b q (λe=>X e.symm) hq) g3 g4
 ·by_cases E:b=c
  ·subst E;exact .inr (by simp only [St.app,hrb];exact h6 q e)
  ·rw [C b E];simp only [St.app,hrb];exact J.ext b q e
 ·by_cases E:b=c
  ·subst E;rw [F] at e;simp only [ar] at e;exact (h3 q e).2.2.1
  ·rw [C b E] at e;exact J.new b q e
 ·simp only [St.app,U];exact h5
 ·simp only [St.app,hlo];exact J.low
 ·simp only [St.app,U];by_cases E:b=c
  ·subst E;rw [F] at e;simp only [ar] at e;have:=(h3 q e).2.2.2;rw [this] at hq;cases hq
  ·rw [C b E] at e;exact J.fz b q e hq
def Qy{b c:Nat}(h:isIn [c] b=false):b≠c:=by
 rintro rfl;simp[isIn]at h
def A3{ι:Inj}{c:Nat}{ρ:Option Rf}:∀b,isIn [c] b=false->∀q,ι b=some q->upd ι c ρ b=some q:=by
 intro b a q d;have:=Qy a;simp[upd,this,d]
def pZ{o:Oper}{a:Act}{w:World}{args:Array Operand}{b:Array TypeId}{x y:Operand}{t d:TypeId}{X:Value}{w':World}(i:o.op=.call ⟨.builtin .append,args,b⟩)(hx:args.toList=[x,y])(f:b.toList=[t,d])
  (h:∀e,(Builtin.append_ #[t,d] e #[a.eval x,a.eval y]).run P w=.ok X w'):(execOp a.eval o).run P w=.ok (.value X) w':=by
 have g:args.map a.eval=#[a.eval x,a.eval y]:=by apply lU;simp[hx]
 have c:b=#[t,d]:=by apply lU;simp[f]
 simp only[execOp,i,resolve,g,c,ay,aE,aB,invoke,builtin,h]
def uI{o:Oper}{a:Act}{w w':World}{X:Value}(h:(execOp a.eval o).run P w=.ok (.value X) w'){next:Act->World->Prop}{Q:Exit->Act->World->Prop}(b:next (a.put o.dst X) w'):o.wp P a w next Q:=by
 unfold Oper.wp;rw[h];exact b
def Py{a cap b:Nat}(d:a<=dj)(h:cap<a)(f:b<=1048576):Builtin.nextslicecap a cap*b<=281474976710656:=by
 have d:a<=67108864:=d;have key:Builtin.nextslicecap a cap<=2*a+768:=by
  have e:∀(m c:Nat),c<=2*a+768->Builtin.growBy a m c<=2*a+768:=by
   intro m
   induction m with
   | zero=>intro c hc;exact hc
   | succ m ih=>
    intro c hc;unfold Builtin.growBy;split
    ·exact hc
    ·exact ih _ (by omega)
  unfold Builtin.nextslicecap;split
  ·omega
  ·split
   ·omega
   ·exact e 4 cap (by omega)
 have g:=xw (show Builtin.nextslicecap a cap<=134218496 by omega) f;exact rK g (by decide)
def I5{ι:Inj}{tr:List Lf}{l m:List (den tr)}{e:TypeId}{zc:Array Value}{cap r:Nat}(f:zc.size=tr.length)(a:l.length+m.length<=cap):
  BR ι (Rf.of r (l.length+m.length) cap) (.rows tr (l++m)) (.cells ((l.flatMap (vals tr)++m.flatMap (vals tr)).toArray++Builtin.zeroCells zc (cap - (l.length+m.length))) e):=by
 have c:=oP (t:=tr) l;have d:=oP (t:=tr) m;have b:(Builtin.zeroCells zc (cap - (l.length+m.length))).size=(cap - (l.length+m.length))*tr.length:=by simp[Builtin.zeroCells,f]
 refine⟨_,e,(0,0),rfl,by simp,a,?_,?_,.inr (tV _)⟩
 ·simp only[Array.size_append,b,zi,aH,c,d];rw[<-ij,<-ij,cU];exact pa _ (by omega)
 ·rw[xJ,aH,ij,HI];have:l.length*tr.length+m.length*tr.length=(l.flatMap (vals tr)++m.flatMap (vals tr)).length:=by rw[aH,c,d]
  rw[this];exact FH
def AY{tr:List Lf}{e:TypeId}(h:Rt P tr e=true):∃i z,P.info? e=some i/\i.zero=some z/\z.cells.size=tr.length/\tr.length=i.size/\0<tr.length/\i.bytes<=1048576:=by
 unfold Rt at h;split at h
 ·rename_i i hi;split at h
  ·rename_i z b;simp only[aA,jB]at h;obtain⟨f,g,a,c⟩:=h;have d:i.size=P.cellsOf e:=by unfold Program.cellsOf;rw[hi];rfl
   have a:0<P.cellsOf e:=aM a;exact⟨i,z,hi,b,by omega,by omega,by omega,aM c⟩
  ·cases h
 ·cases h
def JQ{α:Type}{n fr:Nat}{ι0 ι:Inj}{w0:Base}{s:St}{o:Oper}{a:Act}{w:World}{args:Array Operand}{tys:Array TypeId}(ho:o.op=.call ⟨.builtin .append,args,tys⟩)(d:Inv n ι0 w0 ι s a w)
  (hfr:ι fr=none) (hge:s.nb<=fr) {k:St->Option α} {z:α} (h:GO P n fr o.dst args.toList tys.toList s k=some z)
  {next:Act->World->Prop} {Q:Exit->Act->World->Prop} (hn:∀s' ι' a' w',k s'=some z->Inv n ι0 w0 ι' s' a' w'->next a' w'):o.wp P a w next Q:=by
 unfold GO at h;split at h
 case h_2=>cases h
 rename_i x y t t2 hd hx ht;split at h
 case h_2=>cases h
 rename_i e K;obtain⟨u,hu,U⟩:=ax h;obtain⟨v,hv,g⟩:=ax U;clear h U;have E:=bv d.tmps hu;have hY:=bv d.tmps hv;have hfr0:∀q,ι0 fr=some q->s.rb<=fr:=by
  intro q G;rcases d.ext fr q G with h | h
  ·rw[hfr]at h;cases h
  ·exact h
 split at g
 ·
  simp only[VR]at E;split at g
  case h_2=>cases g
  rename_i tr _;split at g
  case h_2=>cases g
  rename_i I;obtain⟨i,zv,hi,hz,k1,k2,k3,k4⟩:=AY I;obtain⟨m,hm,g⟩:=ax g;obtain⟨C,g⟩:=ei g;have C:=aM C;have hle':m.length<=67108864:=C;have A:=NW d.mem hY hm k2;have hTm:=d.tmps.mono (qt (r:=none) hfr);have B:∀{ρ:Option Rf} b y,b≠fr->look s.H b=some y->y≠.dead->∃M,look s.H b=some M/\M≠.dead/\(∀q o,BR ι q M o->BR (upd ι fr ρ) q y o)/\∀t,M=.rows t []->y=.rows t []:=
   λb y _ Y hdd=>⟨y,Y,hdd,λq o hb=>BR.mono (qt hfr) hb,λ_ h=>h⟩
  by_cases h0:m.length=0
  ·have hm0:m=[]:=tu h0;subst hm0;have f:=pZ (P:=P) (X:=.slice none 0 0) (w':=w) ho hx ht λV=>by
    rw[E];have:=run_append_nothing (P:=P) w t t2 V e i K hi none 0 0 (bg _) (a.eval y) (by simpa using A);simpa using this
   refine uI f (hn _ (upd ι fr none) _ _ g (Inv.rebind d hTm B rfl rfl rfl (FX _ _) (by omega) hd (λ_ _ _ _=>rfl) (.inr ⟨dO _ _ _,tr,rfl⟩) (λq G=>by cases G) (bg _) d.fr hfr0 ?_));unfold VR;exact .inr ⟨dO _ _ _,_,rfl⟩
  ·have N:m.length<=grownCap w m.length 0 e:=by simp only[grownCap,Question.cut];omega
   have f:=pZ (P:=P) (X:=.slice (some ⟨w.heap.size,0,none⟩) m.length (grownCap w m.length 0 e))
     (w':=w.drew.alloc (.cells ((m.flatMap (vals tr)).toArray++Builtin.zeroCells zv.cells (grownCap w m.length 0 e - m.length)) e)) ho hx ht λV=>by
    rw[E];have:=run_append_grow_src (P:=P) w t t2 V e i zv K hi hz none 0 0 [] (run_firstCells_none _ _ _ _ _) (a.eval y) m.length _ A (by omega) (by omega) (Py (by simpa using C) (by omega) k4);simpa using this
   refine uI f (hn _ (upd ι fr (some (Rf.of w.heap.size (m.length) (grownCap w m.length 0 e)))) _ _ g (Inv.rebind d (d.tmps.mono (qt hfr)) B rfl rfl rfl (FX _ _) (by omega) hd (λb q hb G=>?_)
    (.inl ⟨_,_,dO _ _ _,kq _ _,?_⟩) (λq G=>?_) (by show w.heap.size<=(w.heap.push _).size;simp) (by exact(d.fr.draws (w.drawn+1)).alloc _) hfr0 ?_))
   ·exact ku _ _ (Bj (d.mem.dom b q G))
   ·have:=I5 (ι:=upd ι fr (some (Rf.of w.heap.size (m.length) (grownCap w m.length 0 e)))) (tr:=tr) (l:=[]) (m:=m) (e:=e) (zc:=zv.cells) (cap:=grownCap w m.length 0 e) (r:=w.heap.size) k1 (by simpa using N);simpa using this
   ·simp only[ar]at G;subst G;refine⟨by show w.heap.size<(w.heap.push _).size;simp,λb q' _ hq'=>Bj (d.mem.dom b q' hq'),.inr d.fr.size,rfl⟩
   ·simp only[VR];exact .inl ⟨_,dO _ _ _,rfl⟩
 ·rename_i c;simp only[VR]at E;split at g
  case h_2=>cases g
  rename_i tr l hb;split at g
  case h_2=>cases g
  rename_i I;simp only[aA]at I;obtain⟨I,L,D⟩:=I;have L:=aM L;have D:=aM D;obtain⟨i,zv,hi,hz,k1,k2,k3,k4⟩:=AY I;obtain⟨m,hm,g⟩:=ax g;obtain⟨C,g⟩:=ei g;have C:=aM C;have hle':l.length+m.length<=67108864:=C;have A:=NW d.mem hY hm k2;have hTk:∀{ρ:Option Rf},TR (upd ι c ρ) (s.kill [c]).T a.tmps:=by
   intro ρ;rw[St.kill_eq];exact d.tmps.kill A3
  have B:∀{ρ:Option Rf} b y,b≠c->look (s.kill [c]).H b=some y->y≠.dead->∃M,look s.H b=some M/\M≠.dead/\(∀q o,BR ι q M o->BR (upd ι c ρ) q y o)/\∀t,M=.rows t []->y=.rows t []:=by
   intro ρ b y W Y hdd;rw[St.kill_eq]at Y;simp only[vL]at Y;cases hy:look s.H b with
   | none=>rw[hy]at Y;cases Y
   | some M=>
    rw[hy]at Y;simp only[fm,ar]at Y;subst Y;exact⟨M,rfl,by rintro rfl;exact hdd rfl,λq o hbr=>BR.kill A3 hbr,by rintro t rfl;rfl⟩
  have hlo:(s.kill [c]).lo=s.lo:=by rw[St.kill_eq]
  have hro:(s.kill [c]).ro=s.ro:=by rw[St.kill_eq]
  have hrb:(s.kill [c]).rb=s.rb:=by rw[St.kill_eq]
  have hcn:c<s.nb:=by
   rcases d.mem.blk c _ hb (by simp)with⟨q,_,h1,_⟩ | ⟨h1,_⟩
   ·exact d.mem.low c _ h1
   ·exact d.mem.low c _ h1
  have grow:∀{base:Option Addr} {cp:Nat},a.eval x=.slice base l.length cp->(Builtin.firstCells i.size l.length (.slice base l.length cp)).run P w.drew=.ok (l.flatMap (vals tr)).toArray w.drew->cp<l.length+m.length->o.wp P a w next Q:=by
   intro base cp E hold hlt;have N:l.length+m.length<=grownCap w (l.length+m.length) cp e:=by simp only[grownCap,Question.cut];omega
   have f:=pZ (P:=P) (X:=.slice (some ⟨w.heap.size,0,none⟩) (l.length+m.length) (grownCap w (l.length+m.length) cp e))
     (w':=w.drew.alloc (.cells ((l.flatMap (vals tr)++m.flatMap (vals tr)).toArray++Builtin.zeroCells zv.cells (grownCap w (l.length+m.length) cp e - (l.length+m.length))) e)) ho hx ht λV=>by
    rw[E];exact run_append_grow_src (P:=P) w t t2 V e i zv K hi hz base l.length cp _ hold (a.eval y) m.length _ A hlt (by omega) (Py C hlt k4)
   refine uI f (hn _ (upd ι c (some (Rf.of w.heap.size (l.length+m.length) (grownCap w (l.length+m.length) cp e)))) _ _ g (Inv.rebind d hTk B hlo hro hrb (bg _) hcn hd (λb q hb G=>?_)
    (.inl ⟨_,_,dO _ _ _,kq _ _,I5 k1 N⟩) (λq G=>?_) (by show w.heap.size<=(w.heap.push _).size;simp) (by exact(d.fr.draws (w.drawn+1)).alloc _) (λ_ _=>D) ?_))
   ·exact ku _ _ (Bj (d.mem.dom b q G))
   ·simp only[ar]at G;subst G;refine⟨by show w.heap.size<(w.heap.push _).size;simp,λb q' _ hq'=>Bj (d.mem.dom b q' hq'),.inr d.fr.size,rfl⟩
   ·simp only[VR];exact .inl ⟨_,dO _ _ _,rfl⟩
  rcases jQ d.mem hb with⟨q,S,e',fz,U,g2,g4,g5,g6,g7,g8⟩ | ⟨U,rfl⟩
  ·rcases E with⟨q',J,E⟩ | ⟨J,_⟩
   ·rw[J]at U;cases U;have hqz:q.fz=false:=by
     cases hc:q.fz with
     | false=>rfl
     | true=>have:=d.fz c q J hc;omega
    have g8:=g8.resolve_left (by rw[hqz];simp);by_cases F:q.n+m.length<=q.k
    ·have hmz:=oP (t:=tr) m;have Z:q.o+q.n*tr.length+m.length*tr.length<=S.size:=by
      have h1:=pa tr.length F;rw[ij]at h1;omega
     have O:∀j,j<(m.flatMap (vals tr)).length->w.cell? ⟨q.r,q.o+q.n*i.size+j,none⟩=S[q.o+q.n*tr.length+j]?:=by
      intro j hj;rw[bh g2,<-k2]
     have hfz:∀j,j<(m.flatMap (vals tr)).length->w.frozen? ⟨q.r,q.o+q.n*i.size+j,none⟩=false:=by
      intro j hj;exact rA g2 g8 (by rw[<-k2];omega)
     have hst:=ly (P:=P) q.r (q.o+q.n*i.size) e' fz (m.flatMap (vals tr)) 0 S w g2 g8 (by rw[hmz,<-k2];omega) ww;have R:=run_storeCells_cells (P:=P) q.r (q.o+q.n*i.size) (m.flatMap (vals tr)) 0 w (by
      intro j hj;rw[dP,O j hj];simp;omega) (by intro j hj;rw[dP];exact hfz j hj) ww
     have hw:w.setCells q.r (q.o+q.n*i.size) (m.flatMap (vals tr))=setObj w q.r (.cells (splA S (q.o+q.n*tr.length) (m.flatMap (vals tr))) e' fz):=by
      rw[hst]at R;simp only[dP,xb,kO,<-k2]at R;rw[<-k2];exact R.symm
     have f:=pZ (P:=P) (X:=.slice (some ⟨q.r,q.o,none⟩) (q.n+m.length) q.k) (w':=setObj w q.r (.cells (splA S (q.o+q.n*tr.length) (m.flatMap (vals tr))) e' fz)) ho hx ht λV=>by
      rw[E,<-hw];exact run_append_room_src (P:=P) w t t2 V e i K hi q.r q.o q.n q.k (a.eval y) m.length _ A F (λj hj=>by rw[O j hj];simp;omega) hfz
     have hssz:(splA S (q.o+q.n*tr.length) (m.flatMap (vals tr))).size=S.size:=xO (by rw[hmz];exact Z)
     refine uI f (hn _ (upd ι c (some ⟨q.r,q.n+m.length,q.k,q.o,q.fz⟩)) _ _ g (Inv.rebind d hTk B hlo hro hrb (bg _) hcn hd (λb p W hp=>tc _ λer=>W ((d.mem.inj c b q p J hp er).resolve_right λhh=>by rw[hqz]at hh;cases hh.1).symm)
      (.inl ⟨_,_,dO _ _ _,yH g2,⟨_,e',fz,rfl,by simp[g4],F,by rw[hssz];exact g6,?_,.inr (by rw[hssz];exact g8)⟩⟩) (λp hp=>?_) (by simp[setObj]) ?_ (λ_ _=>D) ?_))
     ·show((splA S (q.o+q.n*tr.length) (m.flatMap (vals tr))).toList.drop q.o).take _=_;rw[Ei (by omega),aH,g4,HI,<-g7,g4];have hdl:(S.toList.drop q.o).length=S.size - q.o:=by simp
      rw[ij,<-fa,vn (by rw[aH,cS,hdl,hmz];omega)];rw[jK (by rw[aH,cS,hdl,hmz];omega)]
     ·simp only[ar]at hp;subst hp;refine⟨by have:=d.mem.dom c q J;simpa[setObj]using this,λb p' W hp' er=>W ((d.mem.inj b c p' q hp' J er).resolve_right λhh=>by rw[hqz]at hh;cases hh.2),d.new c q J,hqz⟩
     ·exact d.fr.write ((d.new c q J).imp (λ⟨q0,h,hr⟩=>⟨c,q0,DK h L,hr⟩) id) _
     ·simp only[VR];exact .inl ⟨_,dO _ _ _,rfl⟩
    ·refine grow (base:=some ⟨q.r,q.o,none⟩) (cp:=q.k) (by rw[E,g4]) ?_ (by omega);have hfl:=oP (t:=tr) l;exact run_firstCells_some w.drew i.size l.length ⟨q.r,q.o,none⟩ l.length q.k _ (by rw[hfl,k2]) (CJ (off:=0) (w:=w.drew) g2 (m:=l.length*tr.length) (by rw[g7,dk,oq]))
   ·rw[J]at U;cases U
  ·rcases E with⟨q',J,E⟩ | ⟨J,ao,E⟩
   ·rw[J]at U;cases U
   ·by_cases h0:m.length=0
    ·have hm0:m=[]:=tu h0;subst hm0;have f:=pZ (P:=P) (X:=.slice ao 0 0) (w':=w) ho hx ht λV=>by
      rw[E];have:=run_append_nothing (P:=P) w t t2 V e i K hi ao 0 0 (bg _) (a.eval y) (by simpa using A);simpa using this
     refine uI f (hn _ (upd ι c none) _ _ g (Inv.rebind d hTk B hlo hro hrb (bg _) hcn hd (λ_ _ _ _=>rfl) (.inr ⟨dO _ _ _,tr,rfl⟩) (λq G=>by cases G) (bg _) d.fr (λ_ _=>D) ?_));unfold VR;exact .inr ⟨dO _ _ _,_,rfl⟩
    ·exact grow (base:=ao) (cp:=0) (by rw[E];rfl) (KL _ _ _) (by simp;omega)
 ·cases g
def BL{α:Type}{E:List Ent}(H:∀x∈E,fQ P x){n fr:Nat}{ι0 ι:Inj}{w0:Base}{s:St}{o:Oper}{a:Act}{w:World}(A:Inv n ι0 w0 ι s a w)
  (p:∀b,fr<=b->ι b=none) (F:s.nb<=fr) {k:St->Option α} {J:V->St->Option α} {z:α} (h:LJ P E n fr o s k J=some z)
  {next:Act->World->Prop} {Q:Exit->Act->World->Prop}
  (B:∀s' c j w',k s'=some z->Inv n ι0 w0 c s' j w'->next j w')
  (hp:∀v s' c x j w',J v s'=some z->VR c v x->Inv n ι0 w0 c s' j w'->Q (.panic [{ v:=x,recovered:=false }]) j w'):
  o.wp P a w next Q:=by
 unfold LJ at h;split at h
 ·rename_i I y;split at h
  ·rename_i g d;split at h
   ·rename_i f cap L M;obtain⟨l,O,h⟩:=ax h;obtain⟨r,u,R⟩:=wI H h;split at u
    ·cases u
    rename_i q;simp only[aA]at q;obtain⟨m,args,C⟩:=I;simp only at d;subst d;refine C3 y A (λb K _=>p b K) L M O q.1 q.2 (R _ λ_ _=>rfl) (λe c j w' _ t=>?_) (λe c x w' N t=>?_)
    ·rw[e]at u;exact B _ c j w' u t
    ·rw[e]at u;exact hp _ _ c x a w' u N t
   ·cases h
  ·rename_i d;obtain⟨m,args,C⟩:=I;simp only at d;subst d;exact JQ y A (p fr (bg _)) F h B
  ·exact HW H A (λb D _=>p b D) h (λs' _ _ _ c j w' G _ i=>B s' c j w' G i) hp
 ·exact HW H A (λb D _=>p b D) h (λs' _ _ _ c j w' G _ i=>B s' c j w' G i) hp
end Go.Abs
