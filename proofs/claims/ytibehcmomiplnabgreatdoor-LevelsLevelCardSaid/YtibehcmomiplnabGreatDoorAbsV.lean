
import Derived.Test.YtibehcmomiplnabGreatDoorAbsN
import Derived.Deep.Upon
set_option linter.unusedSimpArgs false
set_option linter.unusedVariables false
set_option linter.defProp false
namespace Go.Abs
variable {P:Program}
def JZ:∀{t:List Lf} {x:den t},∀u∈vals t x,u.oneCell'=true
 | [],_,u,h=>by simp[vals]at h
 | [a],x,u,h=>by
  simp only[vals,nh]at h;subst h;cases a<;>rfl
 | a::b::l,x,u,h=>by
  simp only[vals,ck]at h;rcases h with rfl | h
  ·cases a<;>rfl
  ·exact JZ (t:=b::l) u (by simpa using h)
def yL{t:List Lf}{l:List (den t)}:∀u∈l.flatMap (vals t),u.oneCell'=true:=by
 intro u h;obtain⟨x,_,hx⟩:=Jl.1 h;exact JZ u hx
def pj{t a:List Lf}{l:List (den t)}{m:List (den a)}(h:nK t a l=some m):∃e:t=a,m=e▸l:=by
 unfold nK at h;split at h
 ·rename_i e;simp only[aw]at h;exact⟨e,h.symm⟩
 ·cases h
def DY{w:World}{r:Nat}{f:Array Value}{e:TypeId}{fr:Nat×Nat}(h:w.heap[r]?=some (.cells f e fr)){off o:Nat}{news:List Value}{m:Nat}(i:(((f.toList.drop o).take m).drop off).take news.length=news):
  ∀j u,news[j]?=some u->w.cell? ((⟨r,o+off,none⟩:Addr).add j)=some u:=by
 intro j u c;have d:j<news.length:=by
  rcases aN j news.length with b | b
  ·exact b
  ·rw[gS b]at c;cases c
 rw[o7,bB h];have a:=cf (λq:List Value=>q[j]?) i;simp only[m7 d,mQ,c]at a;by_cases g:off+j<m
 ·rw[m7 g,mQ]at a;simpa[iy]using a
 ·rw[gS (by rw[dN];omega)]at a;cases a
def Src.empty{w:World}{size:Nat}{C G:TypeId}(F:P.underlying C=some (.slice G))(E:Option Addr):Src P size C (.slice E 0 0) 0 [] w:=by
 cases E with
 | none=>exact Src.ofNil w F 0
 | some a=>exact Src.ofSlice w F a 0 0 [] (by simp) (λj u J=>by simp at J) (λu O=>by cases O)
def M8(size:Nat)(b:Option Addr)(w:World):(Builtin.firstCells size 0 (.slice b 0 0)).run P w=.ok #[] w:=by
 cases b with
 | none=>exact run_firstCells_none _ _ _ _ _
 | some a=>exact run_firstCells_some w size 0 a 0 0 [] (by simp) (λj u c=>by simp at c)
def Rz{ι:Inj}{H:List (Nat×Blk)}{nb:Nat}{w:World}(B:WR ι H nb w){b:V}{Y:Value}(f:VR ι b Y){tr:List Lf}{A:TypeId}{m:List (den tr)}(h:srcK P H tr A b=some m)
  {size:Nat} (hs:tr.length=size):Src P size A Y m.length (m.flatMap (vals tr)) w:=by
 unfold srcK at h;split at h
 ·rename_i e g;split at h
  ·simp only[aw]at h;subst h;simp only[VR]at f;subst f;exact Src.ofNil w g 0
  ·rename_i c;split at h
   case h_2=>cases h
   rename_i t l p;obtain⟨rfl,rfl⟩:=pj h;simp only[VR]at f;rcases kM B p with⟨q,F,I,fr,a,v,z,C,J,x,_⟩ | ⟨a,rfl⟩
   ·rcases f with⟨G,d,rfl⟩ | ⟨d,_⟩
    ·rw[d]at a;cases a;rw[<-z];refine Src.ofSlice w g _ _ _ _ (by rw[qI,hs]) (DY (off:=0) v (m:=m.length*t.length) ?_) yL;rw[x,cM,oC]
    ·rw[d]at a;cases a
   ·rcases f with⟨q,d,_⟩ | ⟨d,s,rfl⟩
    ·rw[d]at a;cases a
    ·exact Src.empty g s
  ·rename_i M c j n _;split at h
   case h_2=>cases h
   rename_i t l p;split at h
   case h_2=>cases h
   rename_i y;have y:=bO y;obtain⟨k,h⟩:=eV h;have k:=aR k;obtain⟨rfl,rfl⟩:=pj h;have o:((l.drop j).take n).length=n:=by rw[dN,cg];omega
   simp only[VR]at f;rw[o];rcases f with⟨q,cp,off,d,N,D,rfl⟩ | ⟨d,⟨rfl,_⟩,s,rfl⟩
   ·rcases kM B p with⟨G,F,I,fr,a,v,z,C,J,x,_⟩ | ⟨a,rfl⟩
    ·rw[d]at a;cases a;refine Src.ofSlice w g _ _ _ _ (by rw[qI,o,hs]) ?_ yL;by_cases r:0<n
     ·rw[D r,y];refine DY v (m:=l.length*t.length) ?_;rw[x,<-Br,qI,o,<-Ak]
     ·have r:n=0:=by omega
      subst r;intro j u K;simp at K
    ·rw[d]at a;cases a
   ·simp only[oq,List.flatMap_nil];exact Src.empty g s
  ·cases h
 ·rename_i g;split at h
  case h_2=>cases h
  rename_i l;obtain⟨rfl,rfl⟩:=pj h;simp only[VR]at f;subst f;simp only[aI,bU]at hs;subst hs;have:=Src.ofString (P:=P) w g ⟨l.toArray⟩;have L:byteCells ⟨l.toArray⟩=(l.map λb=>(b.toNat:Int)).flatMap (vals [.i .u8]):=by
   rw[uN];simp[byteCells]
  have E:(ByteArray.mk l.toArray).size=(l.map λb=>(b.toNat:Int)).length:=by rw[vF];rfl
  rw[L,E]at this;exact this
 ·cases h
def Inv.rebind {n:Nat} {ι0 ι:Inj} {w0:Base} {w w':World} {s Y:St} {a:Act} {c U:Nat} {ρ:Option Rf} {blk:Blk} {v:V} {x:Value} {dst:Option Nat} (J:Inv n ι0 w0 ι s a w)
  (hT:TR (upd ι c ρ) Y.T a.tmps) (hH:∀b y,b≠c->look Y.H b=some y->y≠.dead->∃Z,look s.H b=some Z/\Z≠.dead/\(∀q o,BR ι q Z o->BR (upd ι c ρ) q y o)/\∀t,Z=.rows t []->y=.rows t [])
  (hlo:Y.lo=s.lo) (Q:Y.ro=s.ro) (hrb:Y.rb=s.rb) (hnb:s.nb<=U) (hc:c<U) (hd:xn n dst=true)
  (h1:∀b q,b≠c->ι b=some (some q)->w'.heap[q.r]?=w.heap[q.r]?) (h2:BW (upd ι c ρ) w' c blk) (h3:∀q,ρ=some q->q.r<w'.heap.size/\(∀b q',b≠c->ι b=some (some q')->q'.r≠q.r)/\
   ((∃q0,ι0 c=some (some q0)/\q0.r=q.r)\/w0.w.heap.size<=q.r)/\q.fz=false) (h4:w.heap.size<=w'.heap.size) (h5:Fr (roI ι0 s.ro) w0.w w') (h6:∀q,ι0 c=some q->s.rb<=c)
  (hv:VR (upd ι c ρ) v x):Inv n ι0 w0 (upd ι c ρ) (Y.app dst (some v) [(c,blk)] U) (a.put dst x) w':=by
 have C:∀b,b≠c->upd ι c ρ b=ι b:=λb E=>by simp [upd,E]
 have F:upd ι c ρ c=some ρ:=by simp [upd]
 refine ⟨by rw [o9];exact J.size,by rw [kJ];exact J.defers,hT.app J.size hd (λu hu=>by cases hu;exact hv),⟨λb b' q q' e1 X e3=>?_,λb q e=>?_,λb q e=>?_,λb y hl W=>?_⟩,λb q e=>?_,λb q e=>?_,?_,?_,λb q e hq=>?_,by simp only [St.app,Q];exact J.gl⟩
 ·by_cases E:b=c
  ·by_cases G:b'=c
   ·exact .inl (by rw [E,G])
   ·subst E;rw [F] at e1;rw [C b' G] at X;simp only [aw] at e1;exact absurd e3.symm ((h3 q e1).2.1 b' q' G X)
  ·rw [C b E] at e1;by_cases G:b'=c
   ·subst G;rw [F] at X;simp only [aw] at X;exact absurd e3 ((h3 q' X).2.1 b q E e1)
   ·rw [C b' G] at X;exact J.mem.inj b b' q q' e1 X e3
 ·by_cases E:b=c
  ·rw [E];exact hc
  ·rw [C b E] at e;have:=J.mem.low b q e;exact re this hnb
 ·by_cases E:b=c
  ·subst E;rw [F] at e;simp only [aw] at e;exact (h3 q e).1
  ·rw [C b E] at e;exact re (J.mem.dom b q e) h4
 ·simp only [St.app,fK,eo,bh] at hl;split at hl
  ·rename_i e;subst e;simp only [aw] at hl;subst hl;exact h2
  ·rename_i O;obtain ⟨Z,g1,g2,g3,g4⟩:=hH b y (λe=>O e.symm) hl W;exact (J.mem.blk b Z g1 g2).map (C b (λe=>O e.symm)) (λq hq=>h1 b q (λe=>O e.symm) hq) g3 g4
 ·by_cases E:b=c
  ·subst E;exact .inr (by simp only [St.app,hrb];exact h6 q e)
  ·rw [C b E];simp only [St.app,hrb];exact J.ext b q e
 ·by_cases E:b=c
  ·subst E;rw [F] at e;simp only [aw] at e;exact (h3 q e).2.2.1
  ·rw [C b E] at e;exact J.new b q e
 ·simp only [St.app,Q];exact h5
 ·simp only [St.app,hlo];exact J.low
 ·simp only [St.app,Q];by_cases E:b=c
  ·subst E;rw [F] at e;simp only [aw] at e;have:=(h3 q e).2.2.2;rw [this] at hq;cases hq
  ·rw [C b E] at e;exact J.fz b q e hq
def Uo{b c:Nat}(h:isIn [c] b=false):b≠c:=by
 rintro rfl;simp[isIn]at h
def Cj{ι:Inj}{c:Nat}{ρ:Option Rf}:∀b,isIn [c] b=false->∀q,ι b=some q->upd ι c ρ b=some q:=by
 intro b d q a;have:=Uo d;simp[upd,this,a]
def rO{o:Oper}{a:Act}{w:World}{args:Array Operand}{b:Array TypeId}{x y:Operand}{t c:TypeId}{X:Value}{w':World}(e:o.op=.call ⟨.builtin .append,args,b⟩)(hx:args.toList=[x,y])(f:b.toList=[t,c])
  (h:∀i,(Builtin.append_ #[t,c] i #[a.eval x,a.eval y]).run P w=.ok X w'):(execOp a.eval o).run P w=.ok (.value X) w':=by
 have g:args.map a.eval=#[a.eval x,a.eval y]:=by apply mO;simp[hx]
 have d:b=#[t,c]:=by apply mO;simp[f]
 simp only[execOp,e,resolve,g,d,ay,aH,aE,invoke,builtin,h]
def wa{o:Oper}{a:Act}{w w':World}{X:Value}(h:(execOp a.eval o).run P w=.ok (.value X) w'){next:Act->World->Prop}{Q:Exit->Act->World->Prop}(b:next (a.put o.dst X) w'):o.wp P a w next Q:=by
 unfold Oper.wp;rw[h];exact b
def Rb{a cap b:Nat}(d:a<=cS)(h:cap<a)(f:b<=1048576):Builtin.nextslicecap a cap*b<=281474976710656:=by
 have d:a<=67108864:=d;have key:Builtin.nextslicecap a cap<=2*a+768:=by
  have g:∀(m c:Nat),c<=2*a+768->Builtin.growBy a m c<=2*a+768:=by
   intro m
   induction m with
   | zero=>intro c hc;exact hc
   | succ m ih=>
    intro c hc;unfold Builtin.growBy;split
    ·exact hc
    ·exact ih _ (by omega)
  unfold Builtin.nextslicecap;split
  ·omega
  ·split
   ·omega
   ·exact g 4 cap (by omega)
 have e:=zy (show Builtin.nextslicecap a cap<=134218496 by omega) f;exact tY e (by decide)
def Kt{ι:Inj}{tr:List Lf}{l m:List (den tr)}{e:TypeId}{zc:Array Value}{cap r:Nat}(f:zc.size=tr.length)(a:l.length+m.length<=cap):
  BR ι (Rf.of r (l.length+m.length) cap) (.rows tr (l++m)) (.cells ((l.flatMap (vals tr)++m.flatMap (vals tr)).toArray++Builtin.zeroCells zc (cap - (l.length+m.length))) e):=by
 have c:=qI (t:=tr) l;have d:=qI (t:=tr) m;have b:(Builtin.zeroCells zc (cap - (l.length+m.length))).size=(cap - (l.length+m.length))*tr.length:=by simp[Builtin.zeroCells,f]
 refine⟨_,e,(0,0),rfl,by simp,a,?_,?_,.inr (vI _)⟩
 ·simp only[Array.size_append,b,A8,aV,c,d];rw[<-iV,<-iV,dw];exact qX _ (by omega)
 ·rw[AO,aV,iV,Kz];have:l.length*tr.length+m.length*tr.length=(l.flatMap (vals tr)++m.flatMap (vals tr)).length:=by rw[aV,c,d]
  rw[this];exact Ar
def CB{tr:List Lf}{e:TypeId}(h:TX P tr e=true):∃i z,P.info? e=some i/\i.zero=some z/\z.cells.size=tr.length/\tr.length=i.size/\0<tr.length/\i.bytes<=1048576:=by
 unfold TX at h;split at h
 ·rename_i i hi;split at h
  ·rename_i z d;simp only[aD,kx]at h;obtain⟨f,g,a,c⟩:=h;have b:i.size=P.cellsOf e:=by unfold Program.cellsOf;rw[hi];rfl
   have a:0<P.cellsOf e:=aR a;exact⟨i,z,hi,d,by omega,by omega,by omega,aR c⟩
  ·cases h
 ·cases h
def MM{α:Type}{n fr:Nat}{ι0 ι:Inj}{w0:Base}{s:St}{o:Oper}{a:Act}{w:World}{args:Array Operand}{tys:Array TypeId}(ho:o.op=.call ⟨.builtin .append,args,tys⟩)(d:Inv n ι0 w0 ι s a w)
  (hfr:ι fr=none) (hge:s.nb<=fr) {k:St->Option α} {z:α} (h:Jr P n fr o.dst args.toList tys.toList s k=some z)
  {next:Act->World->Prop} {Q:Exit->Act->World->Prop} (hn:∀s' ι' a' w',k s'=some z->Inv n ι0 w0 ι' s' a' w'->next a' w'):o.wp P a w next Q:=by
 unfold Jr at h;split at h
 case h_2=>cases h
 rename_i x y t t2 hd hx ht;split at h
 case h_2=>cases h
 rename_i e L;obtain⟨u,hu,S⟩:=ax h;obtain⟨v,hv,g⟩:=ax S;clear h S;have G:=bL d.tmps hu;have hY:=bL d.tmps hv;have hfr0:∀q,ι0 fr=some q->s.rb<=fr:=by
  intro q E;rcases d.ext fr q E with h | h
  ·rw[hfr]at h;cases h
  ·exact h
 split at g
 ·
  simp only[VR]at G;split at g
  case h_2=>cases g
  rename_i tr _;split at g
  case h_2=>cases g
  rename_i I;obtain⟨i,zv,hi,hz,k1,k2,k3,k4⟩:=CB I;obtain⟨m,hm,g⟩:=ax g;obtain⟨C,g⟩:=eV g;have C:=aR C;have hle':m.length<=67108864:=C;have A:=Rz d.mem hY hm k2;have hTm:=d.tmps.mono (sO (r:=none) hfr);have B:∀{ρ:Option Rf} b y,b≠fr->look s.H b=some y->y≠.dead->∃M,look s.H b=some M/\M≠.dead/\(∀q o,BR ι q M o->BR (upd ι fr ρ) q y o)/\∀t,M=.rows t []->y=.rows t []:=
   λb y _ Y hdd=>⟨y,Y,hdd,λq o hb=>BR.mono (sO hfr) hb,λ_ h=>h⟩
  by_cases h0:m.length=0
  ·have hm0:m=[]:=vi h0;subst hm0;have f:=rO (P:=P) (X:=.slice none 0 0) (w':=w) ho hx ht λty=>by
    rw[G];have:=run_append_nothing (P:=P) w t t2 ty e i L hi none 0 0 (bi _) (a.eval y) (by simpa using A);simpa using this
   refine wa f (hn _ (upd ι fr none) _ _ g (Inv.rebind d hTm B rfl rfl rfl (I0 _ _) (by omega) hd (λ_ _ _ _=>rfl) (.inr ⟨ek _ _ _,tr,rfl⟩) (λq E=>by cases E) (bi _) d.fr hfr0 ?_));unfold VR;exact .inr ⟨ek _ _ _,_,rfl⟩
  ·have K:m.length<=grownCap w m.length 0 e:=by simp only[grownCap,Question.cut];omega
   have f:=rO (P:=P) (X:=.slice (some ⟨w.heap.size,0,none⟩) m.length (grownCap w m.length 0 e))
     (w':=w.drew.alloc (.cells ((m.flatMap (vals tr)).toArray++Builtin.zeroCells zv.cells (grownCap w m.length 0 e - m.length)) e)) ho hx ht λty=>by
    rw[G];have:=run_append_grow_src (P:=P) w t t2 ty e i zv L hi hz none 0 0 [] (run_firstCells_none _ _ _ _ _) (a.eval y) m.length _ A (by omega) (by omega) (Rb (by simpa using C) (by omega) k4);simpa using this
   refine wa f (hn _ (upd ι fr (some (Rf.of w.heap.size m.length (grownCap w m.length 0 e)))) _ _ g (Inv.rebind d (d.tmps.mono (sO hfr)) B rfl rfl rfl (I0 _ _) (by omega) hd (λb q hb E=>?_)
    (.inl ⟨_,_,ek _ _ _,lA _ _,?_⟩) (λq E=>?_) (by show w.heap.size<=(w.heap.push _).size;simp) (by exact(d.fr.draws (w.drawn+1)).alloc _) hfr0 ?_))
   ·exact lq _ _ (Em (d.mem.dom b q E))
   ·have:=Kt (ι:=upd ι fr (some (Rf.of w.heap.size m.length (grownCap w m.length 0 e)))) (tr:=tr) (l:=[]) (m:=m) (e:=e) (zc:=zv.cells) (cap:=grownCap w m.length 0 e) (r:=w.heap.size) k1 (by simpa using K);simpa using this
   ·simp only[aw]at E;subst E;refine⟨by show w.heap.size<(w.heap.push _).size;simp,λb q' _ hq'=>Em (d.mem.dom b q' hq'),.inr d.fr.size,rfl⟩
   ·simp only[VR];exact .inl ⟨_,ek _ _ _,rfl⟩
 ·rename_i c;simp only[VR]at G;split at g
  case h_2=>cases g
  rename_i tr l hb;split at g
  case h_2=>cases g
  rename_i I;simp only[aD]at I;obtain⟨I,O,D⟩:=I;have O:=aR O;have D:=aR D;obtain⟨i,zv,hi,hz,k1,k2,k3,k4⟩:=CB I;obtain⟨m,hm,g⟩:=ax g;obtain⟨C,g⟩:=eV g;have C:=aR C;have hle':l.length+m.length<=67108864:=C;have A:=Rz d.mem hY hm k2;have hTk:∀{ρ:Option Rf},TR (upd ι c ρ) (s.kill [c]).T a.tmps:=by
   intro ρ;rw[St.kill_eq];exact d.tmps.kill Cj
  have B:∀{ρ:Option Rf} b y,b≠c->look (s.kill [c]).H b=some y->y≠.dead->∃M,look s.H b=some M/\M≠.dead/\(∀q o,BR ι q M o->BR (upd ι c ρ) q y o)/\∀t,M=.rows t []->y=.rows t []:=by
   intro ρ b y V Y hdd;rw[St.kill_eq]at Y;simp only[xM]at Y;cases hy:look s.H b with
   | none=>rw[hy]at Y;cases Y
   | some M=>
    rw[hy]at Y;simp only[fQ,aw]at Y;subst Y;exact⟨M,rfl,by rintro rfl;exact hdd rfl,λq o hbr=>BR.kill Cj hbr,by rintro t rfl;rfl⟩
  have hlo:(s.kill [c]).lo=s.lo:=by rw[St.kill_eq]
  have hro:(s.kill [c]).ro=s.ro:=by rw[St.kill_eq]
  have hrb:(s.kill [c]).rb=s.rb:=by rw[St.kill_eq]
  have hcn:c<s.nb:=by
   rcases d.mem.blk c _ hb (by simp)with⟨q,_,h1,_⟩ | ⟨h1,_⟩
   ·exact d.mem.low c _ h1
   ·exact d.mem.low c _ h1
  have grow:∀{base:Option Addr} {cp:Nat},a.eval x=.slice base l.length cp->(Builtin.firstCells i.size l.length (.slice base l.length cp)).run P w.drew=.ok (l.flatMap (vals tr)).toArray w.drew->cp<l.length+m.length->o.wp P a w next Q:=by
   intro base cp G hold hlt;have K:l.length+m.length<=grownCap w (l.length+m.length) cp e:=by simp only[grownCap,Question.cut];omega
   have f:=rO (P:=P) (X:=.slice (some ⟨w.heap.size,0,none⟩) (l.length+m.length) (grownCap w (l.length+m.length) cp e))
     (w':=w.drew.alloc (.cells ((l.flatMap (vals tr)++m.flatMap (vals tr)).toArray++Builtin.zeroCells zv.cells (grownCap w (l.length+m.length) cp e - (l.length+m.length))) e)) ho hx ht λty=>by
    rw[G];exact run_append_grow_src (P:=P) w t t2 ty e i zv L hi hz base l.length cp _ hold (a.eval y) m.length _ A hlt (by omega) (Rb C hlt k4)
   refine wa f (hn _ (upd ι c (some (Rf.of w.heap.size (l.length+m.length) (grownCap w (l.length+m.length) cp e)))) _ _ g (Inv.rebind d hTk B hlo hro hrb (bi _) hcn hd (λb q hb E=>?_)
    (.inl ⟨_,_,ek _ _ _,lA _ _,Kt k1 K⟩) (λq E=>?_) (by show w.heap.size<=(w.heap.push _).size;simp) (by exact(d.fr.draws (w.drawn+1)).alloc _) (λ_ _=>D) ?_))
   ·exact lq _ _ (Em (d.mem.dom b q E))
   ·simp only[aw]at E;subst E;refine⟨by show w.heap.size<(w.heap.push _).size;simp,λb q' _ hq'=>Em (d.mem.dom b q' hq'),.inr d.fr.size,rfl⟩
   ·simp only[VR];exact .inl ⟨_,ek _ _ _,rfl⟩
  rcases kM d.mem hb with⟨q,U,e',fz,S,g2,g4,g5,g6,g7,g8⟩ | ⟨S,rfl⟩
  ·rcases G with⟨q',J,G⟩ | ⟨J,_⟩
   ·rw[J]at S;cases S;have W:q.fz=false:=by
     cases hc:q.fz with
     | false=>rfl
     | true=>have:=d.fz c q J hc;omega
    have g8:=g8.resolve_left (by rw[W];simp);by_cases F:q.n+m.length<=q.k
    ·have Z:=qI (t:=tr) m;have hbound:q.o+q.n*tr.length+m.length*tr.length<=U.size:=by
      have h1:=qX tr.length F;rw[iV]at h1;omega
     have R:∀j,j<(m.flatMap (vals tr)).length->w.cell? ⟨q.r,q.o+q.n*i.size+j,none⟩=U[q.o+q.n*tr.length+j]?:=by
      intro j hj;rw[bB g2,<-k2]
     have hfz:∀j,j<(m.flatMap (vals tr)).length->w.frozen? ⟨q.r,q.o+q.n*i.size+j,none⟩=false:=by
      intro j hj;exact tL g2 g8 (by rw[<-k2];omega)
     have hst:=mN (P:=P) q.r (q.o+q.n*i.size) e' fz (m.flatMap (vals tr)) 0 U w g2 g8 (by rw[Z,<-k2];omega) yL;have N:=run_storeCells_cells (P:=P) q.r (q.o+q.n*i.size) (m.flatMap (vals tr)) 0 w (by
      intro j hj;rw[dj,R j hj];simp;omega) (by intro j hj;rw[dj];exact hfz j hj) yL
     have hw:w.setCells q.r (q.o+q.n*i.size) (m.flatMap (vals tr))=setObj w q.r (.cells (splA U (q.o+q.n*tr.length) (m.flatMap (vals tr))) e' fz):=by
      rw[hst]at N;simp only[dj,Aa,lL,<-k2]at N;rw[<-k2];exact N.symm
     have f:=rO (P:=P) (X:=.slice (some ⟨q.r,q.o,none⟩) (q.n+m.length) q.k) (w':=setObj w q.r (.cells (splA U (q.o+q.n*tr.length) (m.flatMap (vals tr))) e' fz)) ho hx ht λty=>by
      rw[G,<-hw];exact run_append_room_src (P:=P) w t t2 ty e i L hi q.r q.o q.n q.k (a.eval y) m.length _ A F (λj hj=>by rw[R j hj];simp;omega) hfz
     have hssz:(splA U (q.o+q.n*tr.length) (m.flatMap (vals tr))).size=U.size:=y6 (by rw[Z];exact hbound)
     refine wa f (hn _ (upd ι c (some ⟨q.r,q.n+m.length,q.k,q.o,q.fz⟩)) _ _ g (Inv.rebind d hTk B hlo hro hrb (bi _) hcn hd (λb p V hp=>uZ _ λer=>V ((d.mem.inj c b q p J hp er).resolve_right λhh=>by rw[W]at hh;cases hh.1).symm)
      (.inl ⟨_,_,ek _ _ _,Bq g2,⟨_,e',fz,rfl,by simp[g4],F,by rw[hssz];exact g6,?_,.inr (by rw[hssz];exact g8)⟩⟩) (λp hp=>?_) (by simp[setObj]) ?_ (λ_ _=>D) ?_))
     ·show((splA U (q.o+q.n*tr.length) (m.flatMap (vals tr))).toList.drop q.o).take _=_;rw[Gw (by omega),aV,g4,Kz,<-g7,g4];have hdl:(U.toList.drop q.o).length=U.size - q.o:=by simp
      rw[iV,<-gx,xA (by rw[aV,dN,hdl,Z];omega)];rw[kr (by rw[aV,dN,hdl,Z];omega)]
     ·simp only[aw]at hp;subst hp;refine⟨by have:=d.mem.dom c q J;simpa[setObj]using this,λb p' V hp' er=>V ((d.mem.inj b c p' q hp' J er).resolve_right λhh=>by rw[W]at hh;cases hh.2),d.new c q J,W⟩
     ·exact d.fr.write ((d.new c q J).imp (λ⟨q0,h,hr⟩=>⟨c,q0,HI h O,hr⟩) id) _
     ·simp only[VR];exact .inl ⟨_,ek _ _ _,rfl⟩
    ·refine grow (base:=some ⟨q.r,q.o,none⟩) (cp:=q.k) (by rw[G,g4]) ?_ (by omega);have hfl:=qI (t:=tr) l;exact run_firstCells_some w.drew i.size l.length ⟨q.r,q.o,none⟩ l.length q.k _ (by rw[hfl,k2]) (DY (off:=0) (w:=w.drew) g2 (m:=l.length*tr.length) (by rw[g7,cM,oC]))
   ·rw[J]at S;cases S
  ·rcases G with⟨q',J,G⟩ | ⟨J,ao,G⟩
   ·rw[J]at S;cases S
   ·by_cases h0:m.length=0
    ·have hm0:m=[]:=vi h0;subst hm0;have f:=rO (P:=P) (X:=.slice ao 0 0) (w':=w) ho hx ht λty=>by
      rw[G];have:=run_append_nothing (P:=P) w t t2 ty e i L hi ao 0 0 (bi _) (a.eval y) (by simpa using A);simpa using this
     refine wa f (hn _ (upd ι c none) _ _ g (Inv.rebind d hTk B hlo hro hrb (bi _) hcn hd (λ_ _ _ _=>rfl) (.inr ⟨ek _ _ _,tr,rfl⟩) (λq E=>by cases E) (bi _) d.fr (λ_ _=>D) ?_));unfold VR;exact .inr ⟨ek _ _ _,_,rfl⟩
    ·exact grow (base:=ao) (cp:=0) (by rw[G];rfl) (M8 _ _ _) (by simp;omega)
 ·cases g
def Eo{α:Type}{E:List Ent}(D:∀x∈E,gV P x){n fr:Nat}{ι0 ι:Inj}{w0:Base}{s:St}{o:Oper}{a:Act}{w:World}(B:Inv n ι0 w0 ι s a w)
  (p:∀b,fr<=b->ι b=none) (F:s.nb<=fr) {k:St->Option α} {J:V->St->Option α} {z:α} (h:On P E n fr o s k J=some z)
  {next:Act->World->Prop} {Q:Exit->Act->World->Prop}
  (A:∀s' c j w',k s'=some z->Inv n ι0 w0 c s' j w'->next j w')
  (hp:∀v s' c x j w',J v s'=some z->VR c v x->Inv n ι0 w0 c s' j w'->Q (.panic [{ v:=x,recovered:=false }]) j w'):
  o.wp P a w next Q:=by
 unfold On at h;split at h
 ·rename_i I y;split at h
  ·rename_i g d;split at h
   ·rename_i f cap R N;obtain⟨l,K,h⟩:=ax h;obtain⟨r,u,L⟩:=yR D h;split at u
    ·cases u
    rename_i t;simp only[aD]at t;obtain⟨m,args,G⟩:=I;simp only at d;subst d;refine DL y B (λb O _=>p b O) R N K t.1 t.2 (L _ λ_ _=>rfl) (λi c j w' _ q=>?_) (λi c x w' M q=>?_)
    ·rw[i]at u;exact A _ c j w' u q
    ·rw[i]at u;exact hp _ _ c x a w' u M q
   ·cases h
  ·rename_i d;obtain⟨m,args,G⟩:=I;simp only at d;subst d;exact MM y B (p fr (bi _)) F h A
  ·exact KA D B (λb C _=>p b C) h (λs' _ _ _ c j w' H _ e=>A s' c j w' H e) hp
 ·exact KA D B (λb C _=>p b C) h (λs' _ _ _ c j w' H _ e=>A s' c j w' H e) hp
end Go.Abs
